
import Derived.Test.YtpbbnmjkbfbelabDoorPt
import Derived.Test.YtpbbnmjkbfbelabDoorBp
import Derived.Test.YtpbbnmjkbfbelabDoorTa
import Derived.Test.YtpbbnmjkbfbelabDoorTb
import Derived.Test.YtpbbnmjkbfbelabDoorTd
import Derived.Test.YtpbbnmjkbfbelabDoorTn
set_option linter.unusedSimpArgs false
set_option linter.unusedVariables false

/- Words: checks, for the chapters behind 17. -/
namespace Go.Sy
open Go
end Go.Sy
namespace Go.Proofs.YtpbbnmjkbfbelabDoor
open Go Go.Sy Go.RowKit
end Go.Proofs.YtpbbnmjkbfbelabDoor
namespace Go.Sy
open Go Go.RowKit
theorem Mem.join_old {m mq : Mem} {b : Nat} (h : m b ≠ none) : m.join mq b = m b := by
  unfold Mem.join
  cases hm : m b with
  | none => exact absurd hm h
  | some o => rfl
theorem wcells_one (l : List Snd) : ∀ u ∈ wcells l, u.oneCell' = true := fun u hu => by
  obtain ⟨x, _, hx⟩ := List.mem_flatMap.1 hu
  simp only [scell, List.mem_cons, List.not_mem_nil, or_false] at hx
  rcases hx with rfl | rfl <;> rfl
theorem row_cap0 {m : Mem} {e : TypeId} {size : Nat} {q : Option Addr} {cap n : Nat} {xs : List Value} (h : Row m e size q cap n xs) (hq : q = none) : cap = 0 := by
  rcases h.2 with ⟨_, _, h⟩ | ⟨g, _, h, _⟩
  · exact h
  · rw [h] at hq; cases hq
theorem take_succ_eqJ {α : Type} {a b : List α} {j : Nat} (ha : j < a.length) (hb : j < b.length) (h : a.take j = b.take j) : a.take (j + 1) = b.take (j + 1) ↔ a[j] = b[j] := by
  rw [List.take_succ_eq_append_getElem ha, List.take_succ_eq_append_getElem hb, h]
  constructor
  · intro e
    have := List.append_cancel_left e
    simpa using this
  · intro e; rw [e]
/-! Parts of words. -/
def WD.from (x : WD) (n : Nat) : WD := ⟨if x.cap = n then x.p else x.p.map fun a => a.add (2 * n), x.cap - n, x.w.drop n⟩
def WD.upto (x : WD) (n : Nat) : WD := ⟨x.p, x.cap, x.w.take n⟩
theorem WD.from_ok {x : WD} (h : x.ok) {n : Nat} (hn : n ≤ x.w.length) : (x.from n).ok := ⟨by have := h.le; simp [WD.from]; omega, fun hp => by
  have := h.nil
  simp only [WD.from] at hp ⊢
  split at hp
  · omega
  · cases hx : x.p with
    | none => rw [this hx]; omega
    | some a => rw [hx] at hp; cases hp⟩
theorem WD.upto_ok {x : WD} (h : x.ok) (n : Nat) : (x.upto n).ok := ⟨by have := h.le; simp [WD.upto]; omega, h.nil⟩
theorem wcells_drop (w : List Snd) (n : Nat) : wcells (w.drop n) = (wcells w).drop (2 * n) := by
  induction w generalizing n with
  | nil => simp [wcells]
  | cons s w ih =>
    cases n with
    | zero => rfl
    | succ n =>
      simp only [List.drop_succ_cons, wcells, List.flatMap_cons, scell] at ih ⊢
      rw [ih, show 2 * (n + 1) = 2 * n + 1 + 1 by omega]
      rfl
theorem wcells_take (w : List Snd) (n : Nat) : wcells (w.take n) = (wcells w).take (2 * n) := by
  induction w generalizing n with
  | nil => simp [wcells]
  | cons s w ih =>
    cases n with
    | zero => rfl
    | succ n =>
      simp only [List.take_succ_cons, wcells, List.flatMap_cons, scell] at ih ⊢
      rw [ih, show 2 * (n + 1) = 2 * n + 1 + 1 by omega]
      rfl
theorem WordAt.from {V : Mv} {x : WD} (h : WordAt V x.p x.w) (hl : x.w.length ≤ x.cap) (n : Nat) : WordAt V (x.from n).p (x.from n).w := by
  simp only [WD.from]
  by_cases e : x.cap = n
  · rw [List.drop_of_length_le (by omega)]; exact fun i y hy => by simp [wcells] at hy
  · rw [if_neg e]
    intro i y hy
    rw [wcells_drop, List.getElem?_drop] at hy
    obtain ⟨b, o, h1, h2⟩ := h _ _ hy
    refine ⟨b, o + 2 * n, by rw [h1, Option.map_some, addr_add], ?_⟩
    rw [← h2]; congr 1; omega
theorem WordAt.upto {V : Mv} {x : WD} (h : WordAt V x.p x.w) (n : Nat) : WordAt V (x.upto n).p (x.upto n).w := fun i y hy => by
  simp only [WD.upto, wcells_take] at hy
  rw [List.getElem?_take] at hy
  split at hy
  · exact h i y hy
  · cases hy
theorem den_from {L : List Nat} {ρ : Env} {i : Nat} {C N Ln : IT} {x : WD} {n : Nat} (hp : ρ.ptr i = x.p) (hC : C.eval ρ = (x.cap : Int)) (hN : N.eval ρ = (n : Int)) (hL : Ln.eval ρ = (x.w.length : Int)) : (SV.sl i (.ifeq C N (.lit 0) (.off N 2 (.lit 0))) (.dif Ln N) (.dif C N)).den L ρ = (x.from n).v := by
  simp only [SV.den, IT.eval, hC, hN, hL, WD.v, WD.from, slv_eq, atAddr, hp, List.length_drop]
  rw [show ((x.w.length : Int) - n).toNat = x.w.length - n by omega, show ((x.cap : Int) - n).toNat = x.cap - n by omega]
  congr 1
  by_cases e : x.cap = n
  · rw [if_pos (by omega), if_pos e]
    cases x.p <;> simp [addr_zero]
  · rw [if_neg (by omega), if_neg e, show ((0 : Int) + n * ((2 : Nat) : Int)).toNat = 2 * n by omega]
theorem den_upto {L : List Nat} {ρ : Env} {i : Nat} {C N : IT} {x : WD} {n : Nat} (hp : ρ.ptr i = x.p) (hC : C.eval ρ = (x.cap : Int)) (hN : N.eval ρ = (n : Int)) (hn : n ≤ x.w.length) : (SV.sl i (.ifeq C (.lit 0) (.lit 0) (.lit 0)) N C).den L ρ = (x.upto n).v := by
  simp only [SV.den, IT.eval, hC, hN, WD.v, WD.upto, slv_eq, atAddr, hp, ite_self, List.length_take]
  rw [show ((n : Int)).toNat = min n x.w.length by omega, show ((x.cap : Int)).toNat = x.cap by omega]
  congr 1
  cases x.p <;> simp [addr_zero]
/-! The order of words. -/
def ordS (s t : Snd) : Int := if s.1 < t.1 then -1 else if t.1 < s.1 then 1 else if s.2 < t.2 then -1 else if t.2 < s.2 then 1 else 0
def ordW : List Snd → List Snd → Int
  | [], [] => 0
  | [], _ :: _ => -1
  | _ :: _, [] => 1
  | s :: a, t :: b => if ordS s t ≠ 0 then ordS s t else ordW a b
theorem ordS_zero {s t : Snd} : ordS s t = 0 ↔ s = t := by
  unfold ordS
  constructor
  · intro h
    split at h
    · omega
    · split at h
      · omega
      · split at h
        · omega
        · split at h
          · omega
          · exact Prod.ext (by omega) (by omega)
  · rintro rfl; simp
theorem ordW_drop {a b : List Snd} {j : Nat} (ha : j < a.length) (hb : j < b.length) : ordW (a.drop j) (b.drop j) = if ordS a[j] b[j] ≠ 0 then ordS a[j] b[j] else ordW (a.drop (j + 1)) (b.drop (j + 1)) := by
  rw [List.drop_eq_getElem_cons ha, List.drop_eq_getElem_cons hb, ordW]
theorem ordW_end {a b : List Snd} {j : Nat} (h : a.length ≤ j ∨ b.length ≤ j) (ha : j ≤ a.length) (hb : j ≤ b.length) : ordW (a.drop j) (b.drop j) = if a.length < b.length then -1 else if b.length < a.length then 1 else 0 := by
  rcases Nat.lt_or_ge j a.length with h1 | h1 <;> rcases Nat.lt_or_ge j b.length with h2 | h2
  · omega
  · rw [List.drop_eq_getElem_cons h1, List.drop_of_length_le h2, ordW, if_neg (by omega), if_pos (by omega)]
  · rw [List.drop_eq_getElem_cons h2, List.drop_of_length_le h1, ordW, if_pos (by omega)]
  · rw [List.drop_of_length_le h1, List.drop_of_length_le h2, ordW, if_neg (by omega), if_neg (by omega)]
def cpl : List Snd → List Snd → Nat
  | x :: a, y :: b => if x = y then 1 + cpl a b else 0
  | _, _ => 0
theorem cpl_le (a b : List Snd) : cpl a b ≤ a.length ∧ cpl a b ≤ b.length := by
  induction a generalizing b with
  | nil => simp [cpl]
  | cons x a ih =>
    cases b with
    | nil => simp [cpl]
    | cons y b =>
      have := ih b
      unfold cpl
      split
      · simp; omega
      · simp
theorem cpl_drop {a b : List Snd} {j : Nat} (ha : j < a.length) (hb : j < b.length) : cpl (a.drop j) (b.drop j) = if a[j] = b[j] then 1 + cpl (a.drop (j + 1)) (b.drop (j + 1)) else 0 := by
  rw [List.drop_eq_getElem_cons ha, List.drop_eq_getElem_cons hb, cpl]
theorem cpl_end {a b : List Snd} {j : Nat} (h : a.length ≤ j ∨ b.length ≤ j) : cpl (a.drop j) (b.drop j) = 0 := by
  rcases h with h | h
  · rw [List.drop_of_length_le h]; simp [cpl]
  · rw [List.drop_of_length_le h]; cases a.drop j <;> rfl
end Go.Sy


/- Words: equality, copies, what two have in common, their order. -/
namespace Go.Proofs.YtpbbnmjkbfbelabDoor
open Go Go.Sy Go.RowKit
theorem c_slEqual (p q : Option Addr) (ca cb : Nat) (a b : List Snd) (hla : a.length < 2 ^ 62) : RetP Tryd.prog n_slices_Equal___api_Sound_api_Sound_ [slv p a.length ca, slv q b.length cb] (fun R => WordAt R p a ∧ WordAt R q b) (.bool (decide (a = b))) := by
  refine Fn.of S_slices_Equal___api_Sound_api_Sound_ mx [.p p, .i a.length, .i ca, .p q, .i b.length, .i cb] rfl rfl fun c hp => .chk (by ((try simp only [evE, liE, lO, lU, snd]); (try simp only [cmE])); omega) (.chk (by ((try simp only [evE, liE, lO, lU, snd]); (try simp only [cmE])); omega) (.ite (fun h1 => .ret rfl ?_) (fun h1 => .chk (by ((try simp only [evE, liE, lO, lU, snd]); (try simp only [cmE])); omega) ?_))) <;> ((try simp only [evE, liE, lO, lU, snd] at h1); (try simp only [cmE] at h1))
  · have : ¬ a = b := fun e => by rw [e] at h1; simp at h1
    ((try simp only [evE, liE, lO, lU, snd]); (try simp only [cmE])); simp [this]
  have hl : a.length = b.length := by omega
  refine .loop (fun n us _ => ∃ (r : Bool) (j : Nat), us = [.b r, .i j] ∧ n + j = a.length ∧ a.take j = b.take j) a.length ⟨false, 0, rfl, rfl, rfl⟩ ?_
  rintro n _ m _ ⟨r, j, rfl, hn, ht⟩
  refine .ite (fun h2 => ?_) (fun h2 => .ret rfl ?_) <;> ((try simp only [evE, liE, lO, lU, snd] at h2); (try simp only [cmE] at h2))
  · have ha : j < a.length := by omega
    have hb : j < b.length := by omega
    have hiff := take_succ_eqJ ha hb ht
    refine .loadW a j ha (fun g => hp.1.mono g.R) (.loadW b j hb (fun g => hp.2.mono g.R) (.ite (fun h3 => .ret rfl ?_) (fun h3 => .again rfl ⟨n - 1, by omega, r, j + 1, ?_, by omega, hiff.2 ?_⟩))) <;> ((try simp only [evE, liE, lO, lU, snd] at h3); (try simp only [cmE] at h3))
    · have : ¬ a = b := fun e => by subst e; simp at h3
      ((try simp only [evE, liE, lO, lU, snd]); (try simp only [cmE])); simp [this]
    · (simp only [evE, liE, lO, lU, snd, Sh.uss, Sh.us, atAddr, map_add0, List.append_nil]); rw [add_i64 j (by omega)]
    · exact snd_eq.1 h3
  · have := take_all hl (by rw [show a.length = j by omega]; exact ht)
    ((try simp only [evE, liE, lO, lU, snd]); (try simp only [cmE])); simp [this]
theorem c_wordEqual (p q : Option Addr) (ca cb : Nat) (a b : List Snd) (hla : a.length < 2 ^ 62) : RetP Tryd.prog n_word_Equal [slv p a.length ca, slv q b.length cb] (fun R => WordAt R p a ∧ WordAt R q b) (.bool (decide (a = b))) :=
  Fn.of S_word_Equal mx [.p p, .i a.length, .i ca, .p q, .i b.length, .i cb] rfl rfl fun c hp => .callV (c_slEqual p q ca cb a b hla) (fun g => ⟨hp.1.mono g.R, hp.2.mono g.R⟩) (.ret rfl rfl)
theorem c_refEqual (p q : Option Addr) (ca cb : Nat) (a b : List Snd) (hla : a.length < 2 ^ 62) : RetP Tryd.prog n_ref02_Equal [slv p a.length ca, slv q b.length cb] (fun R => WordAt R p a ∧ WordAt R q b) (.bool (decide (a = b))) := by
  refine Fn.of S_ref02_Equal mx [.p p, .i a.length, .i ca, .p q, .i b.length, .i cb] rfl rfl fun c hp => .chk (by ((try simp only [evE, liE, lO, lU, snd]); (try simp only [cmE])); omega) (.chk (by ((try simp only [evE, liE, lO, lU, snd]); (try simp only [cmE])); omega) (.ite (fun h1 => .ret rfl ?_) (fun h1 => ?_))) <;> ((try simp only [evE, liE, lO, lU, snd] at h1); (try simp only [cmE] at h1))
  · have : ¬ a = b := fun e => by rw [e] at h1; simp at h1
    ((try simp only [evE, liE, lO, lU, snd]); (try simp only [cmE])); simp [this]
  have hl : a.length = b.length := by omega
  refine .loop (fun n us _ => ∃ (r : Bool) (j : Nat), us = [.b r, .i j] ∧ n + j = a.length ∧ a.take j = b.take j) a.length ⟨false, 0, rfl, rfl, rfl⟩ ?_
  rintro n _ m _ ⟨r, j, rfl, hn, ht⟩
  refine .chk (by ((try simp only [evE, liE, lO, lU, snd]); (try simp only [cmE])); omega) (.ite (fun h2 => ?_) (fun h2 => .ret rfl ?_)) <;> ((try simp only [evE, liE, lO, lU, snd] at h2); (try simp only [cmE] at h2))
  · have ha : j < a.length := by omega
    have hb : j < b.length := by omega
    have hiff := take_succ_eqJ ha hb ht
    refine .loadW a j ha (fun g => hp.1.mono g.R) (.loadW b j hb (fun g => hp.2.mono g.R) (.ite (fun h3 => .ret rfl ?_) (fun h3 => .again rfl ⟨n - 1, by omega, r, j + 1, ?_, by omega, hiff.2 ?_⟩))) <;> ((try simp only [evE, liE, lO, lU, snd] at h3); (try simp only [cmE] at h3))
    · have : ¬ a = b := fun e => by subst e; simp at h3
      ((try simp only [evE, liE, lO, lU, snd]); (try simp only [cmE])); simp [this]
    · (simp only [evE, liE, lO, lU, snd, Sh.uss, Sh.us, atAddr, map_add0, List.append_nil]); rw [add_i64 j (by omega)]
    · exact snd_eq.1 h3
  · have := take_all hl (by rw [show a.length = j by omega]; exact ht)
    ((try simp only [evE, liE, lO, lU, snd]); (try simp only [cmE])); simp [this]
theorem c_common (p q : Option Addr) (ca cb : Nat) (a b : List Snd) (hla : a.length < 2 ^ 40) (hlb : b.length < 2 ^ 40) : FnM Tryd.prog n_word_Common [slv p a.length ca, slv q b.length cb] (fun R => WordAt R p a ∧ WordAt R q b) fun v _ _ => ∃ k : Nat, v = .tuple #[.int .i64 (cpl a b : Nat), .int .i64 (k : Nat)] := by
  refine FnM.of S_word_Common mx [.p p, .i a.length, .i ca, .p q, .i b.length, .i cb] rfl rfl fun c hp => .chk (by ((try simp only [evE, liE, lO, lU, snd]); (try simp only [cmE])); omega) (.chk (by ((try simp only [evE, liE, lO, lU, snd]); (try simp only [cmE])); omega) ?_)
  have hmn : ∀ x : Int, (if ((b.length : Int)) < (a.length : Int) then (b.length : Int) else (a.length : Int)) = (min a.length b.length : Nat) := fun _ => by split <;> omega
  refine .loop (fun n us _ => ∃ j : Nat, us = [.i j] ∧ n + j = min a.length b.length ∧ cpl a b = j + cpl (a.drop j) (b.drop j)) (min a.length b.length) ⟨0, rfl, rfl, by simp⟩ ?_
  rintro n _ m _ ⟨j, rfl, hn, hc⟩
  refine .join (fun us mm => m = mm ∧ ∃ x : Bool, us = [.b x] ∧ (x = true ↔ ∃ (ha : j < a.length) (hb : j < b.length), a[j] = b[j])) (.ite (fun h1 => ?_) (fun h1 => .again rfl ⟨rfl, false, rfl, ?_⟩)) ?_
  · replace h1 : cm .lss (j : Int) (if ((b.length : Int)) < (a.length : Int) then (b.length : Int) else (a.length : Int)) = true := h1
    rw [hmn 0] at h1
    simp only [cm, decide_eq_true_eq] at h1
    have ha : j < a.length := by omega
    have hb : j < b.length := by omega
    refine .loadW a j ha (fun g => hp.1.mono g.R) (.loadW b j hb (fun g => hp.2.mono g.R) (.again rfl ⟨rfl, (bif cm .eql (a[j].1 : Int) (b[j].1 : Int) then cm .eql (a[j].2 : Int) (b[j].2 : Int) else false), rfl, ?_⟩))
    rw [pick_and]
    simp only [cm, Bool.and_eq_true, beq_iff_eq, ha, hb, exists_true_left]
    exact snd_eq
  · replace h1 : cm .lss (j : Int) (if ((b.length : Int)) < (a.length : Int) then (b.length : Int) else (a.length : Int)) = false := h1
    rw [hmn 0] at h1
    simp only [cm, decide_eq_false_iff_not] at h1
    simp only [Bool.false_eq_true, false_iff]
    rintro ⟨ha, hb, _⟩; omega
  rintro _ _ _ ⟨rfl, x, rfl, hx⟩
  refine .env (by (try simp only [liE, lO, lU, snd, aN]); rfl) (.ite (fun h1 => .again rfl ⟨n - 1, ?_, j + 1, ?_, ?_, ?_⟩) (fun h1 => ?_))
  · obtain ⟨ha, hb, _⟩ := hx.1 h1; omega
  · obtain ⟨ha, hb, _⟩ := hx.1 h1
    (simp only [evE, liE, lO, lU, snd, Sh.uss, Sh.us, atAddr, map_add0, List.append_nil]); rw [add_i64 j (by omega)]
  · obtain ⟨ha, hb, _⟩ := hx.1 h1; omega
  · obtain ⟨ha, hb, e⟩ := hx.1 h1
    rw [hc, cpl_drop ha hb, if_pos e]; omega
  · replace h1 : x = false := h1
    subst h1
    have hc' : cpl a b = j := by
      rw [hc]
      rcases Nat.lt_or_ge j a.length with ha | ha
      · rcases Nat.lt_or_ge j b.length with hb | hb
        · rw [cpl_drop ha hb, if_neg fun e => by cases hx.2 ⟨ha, hb, e⟩]; omega
        · rw [cpl_end (.inr hb)]; omega
      · rw [cpl_end (.inl ha)]; omega
    rw [hc']
    refine .loop (fun n us _ => ∃ k : Nat, us = [.i k] ∧ n + (j + k) = min a.length b.length) (min a.length b.length - j) ⟨0, rfl, by omega⟩ ?_
    rintro n2 _ m2 _ ⟨k, rfl, hn2⟩
    have ejk : ar .add .i64 (j : Int) (k : Int) = ((j + k : Nat) : Int) := by rw [addI (by omega) (by omega)]; omega
    have sub : ∀ l : List Snd, l.length < 2 ^ 40 → j + k < l.length → ar .sub .i64 (ar .sub .i64 (l.length : Int) 1) (k : Int) = ((l.length - 1 - k : Nat) : Int) := fun l h1 h2 => by
      rw [show ar .sub .i64 (l.length : Int) 1 = (l.length : Int) - 1 from subI (by omega) (by omega), subI (by omega) (by omega)]; omega
    refine .env (by (try simp only [liE, lO, lU, snd, aN]); rfl) (.join (fun us mm => m2 = mm ∧ ∃ x : Bool, us = [.b x] ∧ (x = true → j + k < min a.length b.length)) (.ite (fun h2 => ?_) (fun h2 => .again rfl ⟨rfl, false, rfl, fun h => by cases h⟩)) ?_)
    · replace h2 : cm .lss (ar .add .i64 (j : Int) (k : Int)) (if ((b.length : Int)) < (a.length : Int) then (b.length : Int) else (a.length : Int)) = true := h2
      rw [hmn 0, ejk] at h2
      simp only [cm, decide_eq_true_eq] at h2
      refine .chk (by ((try simp only [evE, liE, lO, lU, snd]); (try simp only [cmE])); omega) (.loadW a (a.length - 1 - k) (by omega) (fun g => hp.1.mono g.R) (.env (by (try simp only [liE, lO, lU, snd, aN]); rfl) (.chk (by ((try simp only [evE, liE, lO, lU, snd]); (try simp only [cmE])); omega) (.loadW b (b.length - 1 - k) (by omega) (fun g => hp.2.mono g.R) (.again rfl ⟨rfl, _, rfl, fun _ => by omega⟩) (by show ar .sub .i64 (ar .sub .i64 (b.length : Int) 1) (k : Int) = _; exact sub b hlb (by omega)) rfl))) (by show ar .sub .i64 (ar .sub .i64 (a.length : Int) 1) (k : Int) = _; exact sub a hla (by omega)) rfl)
    rintro _ _ _ ⟨rfl, x, rfl, hx⟩
    refine .env (by (try simp only [liE, lO, lU, snd, aN]); rfl) (.ite (fun h1 => .again rfl ⟨n2 - 1, ?_, k + 1, ?_, ?_⟩) (fun h1 => .ret rfl ⟨k, rfl⟩))
    · have := hx h1; omega
    · have := hx h1
      (simp only [evE, liE, lO, lU, snd, Sh.uss, Sh.us, atAddr, map_add0, List.append_nil]); rw [add_i64 k (by omega)]
    · have := hx h1; omega
theorem c_cmp32 (x y : Nat) : Ret Tryd.prog n_cmp_Compare_uint32_ [.int .u32 x, .int .u32 y] (.int .i64 (if x < y then -1 else if y < x then 1 else 0)) := by
  refine Fn.of S_cmp_Compare_uint32_ mx [.i x, .i y] rfl rfl fun c _ => .callV (c_isNaN _) (fun _ => trivial) (.callV (c_isNaN _) (fun _ => trivial) (.no rfl (.no rfl (.ite (fun h => .ret rfl ?_) (fun h => .ite (fun h4 => .ret rfl ?_) (fun h4 => .ret rfl ?_)))))) <;> ((try simp only [evE, liE, lO, lU, snd] at h); (try simp only [cmE] at h))
  · rw [if_pos (by omega)]; rfl
  · ((try simp only [evE, liE, lO, lU, snd] at h4); (try simp only [cmE] at h4)); rw [if_neg (by omega), if_pos (by omega)]; rfl
  · ((try simp only [evE, liE, lO, lU, snd] at h4); (try simp only [cmE] at h4)); rw [if_neg (by omega), if_neg (by omega)]; rfl
theorem c_or2 (p : Option Addr) (cap : Nat) (x y : Int) : RetP Tryd.prog n_cmp_Or_int_ [slv p 2 cap] (fun R => Cells R p [.int .i64 x, .int .i64 y]) (.int .i64 (if x ≠ 0 then x else y)) := by
  refine Fn.of S_cmp_Or_int_ mx [.p p, .i 2, .i cap] rfl rfl fun c hp => .chk rfl ?_
  refine .loop (fun n us _ => ∃ (e : Int) (j : Nat), us = [.i e, .i j] ∧ n + j = 2 ∧ (j ≠ 0 → x = 0) ∧ (j = 2 → y = 0)) 2 ⟨0, 0, rfl, rfl, fun h => absurd rfl h, fun h => by omega⟩ ?_
  rintro n _ m _ ⟨e, j, rfl, hn, h0, h1⟩
  refine .ite (fun h2 => ?_) (fun h2 => .ret rfl ?_) <;> ((try simp only [evE, liE, lO, lU, snd] at h2); (try simp only [cmE] at h2))
  · obtain rfl | rfl : j = 0 ∨ j = 1 := by omega
    · refine .elem1 (.int .i64 x) [.int .i64 x, .int .i64 y] 0 2 rfl rfl (by omega) (fun g => hp.mono g.R) rfl (.ite (fun h3 => .ret rfl ?_) (fun h3 => .again rfl ⟨1, by omega, e, 1, by (simp only [evE, liE, lO, lU, snd, Sh.uss, Sh.us, atAddr, map_add0, List.append_nil]); rfl, rfl, fun _ => ?_, fun h => by omega⟩)) <;> ((try simp only [evE, liE, lO, lU, snd] at h3); (try simp only [cmE] at h3))
      · rw [if_pos h3]; rfl
      · exact h3
    · have hx := h0 (by omega)
      refine .elem1 (.int .i64 y) [.int .i64 x, .int .i64 y] 1 2 rfl rfl (by omega) (fun g => hp.mono g.R) rfl (.ite (fun h3 => .ret rfl ?_) (fun h3 => .again rfl ⟨0, by omega, e, 2, by (simp only [evE, liE, lO, lU, snd, Sh.uss, Sh.us, atAddr, map_add0, List.append_nil]); rfl, rfl, fun _ => hx, fun _ => ?_⟩)) <;> ((try simp only [evE, liE, lO, lU, snd] at h3); (try simp only [cmE] at h3))
      · rw [if_neg (by simp [hx])]; rfl
      · exact h3
  · rw [if_neg (by simp [h0 (by omega)]), h1 (by omega)]; rfl
theorem c_wordorder (s t : Snd) : Ret Tryd.prog n_word_order [snd s, snd t] (.int .i64 (ordS s t)) := by
  refine Fn.of S_word_order mx [.i s.1, .i s.2, .i t.1, .i t.2] rfl rfl fun c _ => .alloc fun b0 => .alloc fun b1 => .callV (c_cmp32 s.1 t.1) (fun _ => trivial) (.callV (c_cmp32 s.2 t.2) (fun _ => trivial) (.alloc fun b2 => .env (by (try simp only [liE, lO, lU, snd, aN]); rfl) (.callV (c_or2 (some ⟨b2, 0, none⟩) 2 (if s.1 < t.1 then -1 else if t.1 < s.1 then 1 else 0) (if s.2 < t.2 then -1 else if t.2 < s.2 then 1 else 0)) (fun g => g.cells (j := 2) rfl rfl rfl) (.ret rfl ?_))))
  have e : ordS s t = if (if s.1 < t.1 then (-1 : Int) else if t.1 < s.1 then 1 else 0) ≠ 0 then (if s.1 < t.1 then -1 else if t.1 < s.1 then 1 else 0) else (if s.2 < t.2 then -1 else if t.2 < s.2 then 1 else 0) := by
    unfold ordS
    split
    · simp
    · split
      · simp
      · simp
  rw [e]; rfl
theorem c_compareFunc (p q : Option Addr) (ca cb : Nat) (a b : List Snd) (hla : a.length < 2 ^ 40) (hlb : b.length < 2 ^ 40) : RetP Tryd.prog n_slices_CompareFunc___api_Sound___api_Sound_api_Sound_api_Sound_ [slv p a.length ca, slv q b.length cb, .func (.func n_word_order) #[] #[]] (fun R => WordAt R p a ∧ WordAt R q b) (.int .i64 (ordW a b)) := by
  refine Fn.of S_slices_CompareFunc___api_Sound___api_Sound_api_Sound_api_Sound_ mx [.p p, .i a.length, .i ca, .p q, .i b.length, .i cb, .v (.func (.func n_word_order) #[] #[])] rfl rfl fun c hp => .chk (by ((try simp only [evE, liE, lO, lU, snd]); (try simp only [cmE])); omega) ?_
  refine .loop (fun n us _ => ∃ (e : Int) (j : Nat), us = [.i e, .i j] ∧ n + j = a.length ∧ j ≤ b.length ∧ ordW a b = ordW (a.drop j) (b.drop j)) a.length ⟨0, 0, rfl, rfl, Nat.zero_le _, rfl⟩ ?_
  rintro n _ m _ ⟨e, j, rfl, hn, hjb, ho⟩
  refine .ite (fun h1 => ?_) (fun h1 => .chk (by ((try simp only [evE, liE, lO, lU, snd]); (try simp only [cmE])); omega) (.chk (by ((try simp only [evE, liE, lO, lU, snd]); (try simp only [cmE])); omega) (.ite (fun h2 => .ret rfl ?_) (fun h2 => .ret rfl ?_)))) <;> ((try simp only [evE, liE, lO, lU, snd] at h1); (try simp only [cmE] at h1))
  · have ha : j < a.length := by omega
    refine .loadW a j ha (fun g => hp.1.mono g.R) (.alloc fun _ => .chk (by ((try simp only [evE, liE, lO, lU, snd]); (try simp only [cmE])); omega) (.ite (fun h2 => .ret rfl ?_) (fun h2 => ?_))) <;> ((try simp only [evE, liE, lO, lU, snd] at h2); (try simp only [cmE] at h2))
    · rw [ho, ordW_end (.inr (by omega)) (by omega) hjb, if_neg (by omega), if_pos (by omega)]; rfl
    · have hb : j < b.length := by omega
      rw [ordW_drop ha hb] at ho
      refine .env (by (try simp only [liE, lO, lU, snd, aN]); rfl) (.loadW b j hb (fun g => hp.2.mono g.R) (.env (by (try simp only [liE, lO, lU, snd, aN]); rfl) (.alloc fun _ => .callvR (r := .int .i64 (ordS a[j] b[j])) (FnV.of0 (by kernel_rfl) (c_wordorder a[j] b[j])) (fun _ => trivial) (fun m' hm' => .env (by (try simp only [liE, lO, lU, snd, aN]); rfl) (.ite (fun h3 => .ret rfl ?_) (fun h3 => .again rfl ⟨n - 1, by omega, e, j + 1, ?_, by omega, by omega, ?_⟩))))))
      · ((try simp only [evE, liE, lO, lU, snd] at h3); (try simp only [cmE] at h3)); rw [ho, if_pos h3]; rfl
      · (simp only [evE, liE, lO, lU, snd, Sh.uss, Sh.us, atAddr, map_add0, List.append_nil]); rw [add_i64 j (by omega)]
      · ((try simp only [evE, liE, lO, lU, snd] at h3); (try simp only [cmE] at h3)); rw [ho, if_neg (by simp [h3])]
  · ((try simp only [evE, liE, lO, lU, snd] at h2); (try simp only [cmE] at h2)); rw [ho, ordW_end (.inl (by omega)) (by omega) hjb, if_pos (by omega)]; rfl
  · ((try simp only [evE, liE, lO, lU, snd] at h2); (try simp only [cmE] at h2)); rw [ho, ordW_end (.inl (by omega)) (by omega) hjb, if_neg (by omega), if_neg (by omega)]; rfl
theorem c_wordOrder (p q : Option Addr) (ca cb : Nat) (a b : List Snd) (hla : a.length < 2 ^ 40) (hlb : b.length < 2 ^ 40) : RetP Tryd.prog n_word_Order [slv p a.length ca, slv q b.length cb] (fun R => WordAt R p a ∧ WordAt R q b) (.int .i64 (ordW a b)) :=
  Fn.of S_word_Order mx [.p p, .i a.length, .i ca, .p q, .i b.length, .i cb] rfl rfl fun c hp => .callV (c_compareFunc p q ca cb a b hla hlb) (fun g => ⟨hp.1.mono g.R, hp.2.mono g.R⟩) (.ret rfl rfl)
end Go.Proofs.YtpbbnmjkbfbelabDoor


/- Chapter 30: checks of models and words; Grow, Concat; the two kinds of changes. -/
namespace Go.Sy
open Go Go.RowKit
structure MD where
  a : WD
  b : WD
def mcells (l : List MD) : List Value := l.flatMap fun m => [m.a.v, m.b.v]
def ModelsAt (R : Mv) (q : Option Addr) (l : List MD) : Prop := Cells R q (mcells l) ∧ ∀ x ∈ l, WordAt R x.a.p x.a.w ∧ WordAt R x.b.p x.b.w
theorem ModelsAt.mono {R S : Mv} {q : Option Addr} {l : List MD} (h : ModelsAt R q l) (hle : R.le S) : ModelsAt S q l := ⟨h.1.mono hle, fun x hx => ⟨(h.2 x hx).1.mono hle, (h.2 x hx).2.mono hle⟩⟩
def ModelsOk (l : List MD) : Prop := ∀ x ∈ l, Wok x.a.w ∧ Wok x.b.w ∧ x.a.ok ∧ x.b.ok
theorem mcells_len (l : List MD) : (mcells l).length = l.length * 2 := by
  induction l with
  | nil => rfl
  | cons s w ih => simp only [mcells, List.flatMap_cons, List.length_append, List.length_cons] at *; rw [ih]; simp; omega
theorem mcells_at (w : List MD) (j : Nat) (h : j < w.length) : (mcells w)[j * 2]? = some w[j].a.v ∧ (mcells w)[j * 2 + 1]? = some w[j].b.v := by
  induction w generalizing j with
  | nil => simp at h
  | cons s w ih =>
    cases j with
    | zero => exact ⟨rfl, rfl⟩
    | succ j =>
      have := ih j (by simpa using h)
      simp only [mcells, List.flatMap_cons, List.cons_append, List.nil_append] at *
      rw [show (j + 1) * 2 = j * 2 + 2 by omega, show j * 2 + 2 + 1 = (j * 2 + 1) + 2 by omega]
      simpa using this
section
variable {P : Program} {c : Cx} {L : List Nat} {ρ : Env} {blks : List Blk} {m : Mem} {R : Value → HW → Prop} {Dn : Nat → List U → HW → Prop} {A : List (List U → HW → Prop)}
theorem DenM.loadMD {i : Nat} {I len : IT} {k : Tree} (l : List MD) (j : Nat) (hj : j < l.length) (hw : Good c L m → Cells (vw c L ρ blks m) (ρ.ptr i) (mcells l)) (hk : DenM P R Dn k L (ρ ++ [.p l[j].a.p, .i l[j].a.w.length, .i l[j].a.cap, .p l[j].b.p, .i l[j].b.w.length, .i l[j].b.cap]) c m A) (hI : I.eval ρ = (j : Int) := by rfl) (hn : len.eval ρ = (l.length : Int) := by rfl) :
    DenM P R Dn (.chk (.pick (.cmp .geq I (.lit 0)) (.pick (.cmp .lss I len) (.some i) (.lit false)) (.lit false)) (.load i (.off I 2 (.lit 0)) [.sl, .sl] blks k)) L ρ c m A := by
  have h := mcells_at l j hj
  refine .elem [.p l[j].a.p, .i l[j].a.w.length, .i l[j].a.cap, .p l[j].b.p, .i l[j].b.w.length, .i l[j].b.cap] (mcells l) j l.length hI hn hj rfl hw (by rw [mcells_len]; omega) (fun q v hv => ?_) hk
  have d0 : (SV.dens L (ρ ++ [.p l[j].a.p, .i l[j].a.w.length, .i l[j].a.cap, .p l[j].b.p, .i l[j].b.w.length, .i l[j].b.cap]) (Sh.freshs [.sl, .sl] ρ.length).1) = [l[j].a.v, l[j].b.v] := by
    have e1 := sl_at ρ L l[j].a.p l[j].a.w.length l[j].a.cap [.p l[j].b.p, .i l[j].b.w.length, .i l[j].b.cap]
    have e2 := sl_at (ρ ++ [.p l[j].a.p, .i l[j].a.w.length, .i l[j].a.cap]) L l[j].b.p l[j].b.w.length l[j].b.cap []
    rw [List.append_assoc] at e2
    simp only [List.cons_append, List.nil_append, List.length_append, List.length_cons, List.length_nil] at e2
    simp only [Sh.freshs, Sh.fresh, SV.dens] at e1 e2 ⊢
    rw [e1, e2]; rfl
  rw [d0] at hv
  match q, hv with
  | 0, hv => simp at hv; rw [← hv]; exact h.1
  | 1, hv => simp at hv; rw [← hv]; exact h.2
  | q + 2, hv => simp at hv
end
theorem checkL_append (a b : List (List Snd)) : checkL (a ++ b) = if checkL a ≠ 0 then checkL a else checkL b := by
  induction a with
  | nil => simp [checkL]
  | cons w a ih =>
    by_cases h : checkW w = 0
    · have e1 : checkL (w :: (a ++ b)) = checkL (a ++ b) := by rw [checkL, if_neg (by simp [h])]
      have e2 : checkL (w :: a) = checkL a := by rw [checkL, if_neg (by simp [h])]
      simp only [List.cons_append, e1, e2, ih]
    · have e1 : checkL (w :: (a ++ b)) = checkW w := by rw [checkL, if_pos h]
      have e2 : checkL (w :: a) = checkW w := by rw [checkL, if_pos h]
      simp only [List.cons_append, e1, e2]
      rw [if_pos h]
def mwords (l : List MD) : List (List Snd) := l.flatMap fun m => [m.a.w, m.b.w]
def chkM (ms : List MD) (l : List (List Snd)) : Int := if ms.length > 256 then 12 else checkL (mwords ms ++ l)
theorem checkL_takeJ {l : List (List Snd)} {j : Nat} (hj : j ≤ l.length) (h : checkL (l.take j) = 0) : checkL l = checkL (l.drop j) := by
  conv => lhs; rw [← List.take_append_drop j l, checkL_append, if_neg (by simp [h])]
theorem checkL_snoc {l : List (List Snd)} {j : Nat} (hj : j < l.length) (h : checkL (l.take j) = 0) (hw : checkW l[j] = 0) : checkL (l.take (j + 1)) = 0 := by
  rw [List.take_succ_eq_append_getElem hj, checkL_append, if_neg (by simp [h])]
  simp [checkL, hw]
theorem mwords_snoc {ms : List MD} {j : Nat} (hj : j < ms.length) : mwords (ms.take (j + 1)) = mwords (ms.take j) ++ [ms[j].a.w, ms[j].b.w] := by
  unfold mwords
  rw [List.take_succ_eq_append_getElem hj, List.flatMap_append]; simp
theorem mwords_split {ms : List MD} {j : Nat} (hj : j < ms.length) : mwords ms = mwords (ms.take j) ++ ([ms[j].a.w, ms[j].b.w] ++ mwords (ms.drop (j + 1))) := by
  unfold mwords
  conv => lhs; rw [← List.take_append_drop j ms, List.drop_eq_getElem_cons hj]
  rw [List.flatMap_append, List.flatMap_cons]
theorem chk_model {ms : List MD} {j : Nat} {l : List (List Snd)} (hj : j < ms.length) (hc : checkL (mwords (ms.take j)) = 0) (h3 : checkL [ms[j].a.w, ms[j].b.w] ≠ 0) : checkL (mwords ms ++ l) = checkL [ms[j].a.w, ms[j].b.w] := by
  rw [mwords_split hj, List.append_assoc, checkL_append, if_neg (by simp [hc]), List.append_assoc, checkL_append, if_pos h3]
end Go.Sy
namespace Go.Proofs.YtpbbnmjkbfbelabDoor
open Go Go.Sy Go.RowKit
theorem c_check0 (q : Option Addr) (cq : Nat) (l : List WD) (h : ∀ x ∈ l, Wok x.w) (hl : l.length < 2 ^ 62) : RetP Tryd.prog n_analogy_check [slv none 0 0, slv q l.length cq] (fun R => WordsAt R q l) (.int .i64 (checkL (l.map (·.w)))) := by
  refine Fn.of S_analogy_check mx [.p none, .i 0, .i 0, .p q, .i l.length, .i cq] rfl rfl fun c hp => .chk rfl (.no rfl (.chk rfl ?_))
  refine .loop (fun n us mm => us = [.i 0, .i 0]) 0 rfl ?_
  rintro n _ m _ rfl
  refine .no rfl (.chk (by ((try simp only [evE, liE, lO, lU, snd]); (try simp only [cmE])); omega) ?_)
  refine .loop (fun n us _ => ∃ (e : Int) (j : Nat), us = [.i e, .i j] ∧ n + j = l.length ∧ checkL ((l.map (·.w)).take j) = 0) l.length ⟨0, 0, rfl, rfl, rfl⟩ ?_
  rintro n _ m _ ⟨e, j, rfl, hn, hc⟩
  refine .env (by (try simp only [liE, lO, lU, snd, aN]); rfl) (.ite (fun h1 => ?_) (fun h1 => .ret rfl ?_)) <;> ((try simp only [evE, liE, lO, lU, snd] at h1); (try simp only [cmE] at h1))
  · have hj : j < l.length := by omega
    refine .loadWD l j hj (fun g => hp.1.mono g.R) (.env (by (try simp only [liE, lO, lU, snd, aN]); rfl) (.callV (c_wordCheck l[j].p l[j].cap l[j].w (h _ (List.getElem_mem hj))) (fun g => (hp.2 _ (List.getElem_mem hj)).mono g.R) (.env (by (try simp only [liE, lO, lU, snd, aN]); rfl) (.ite (fun h2 => .ret rfl ?_) (fun h2 => .again rfl ⟨n - 1, by omega, e, j + 1, ?_, by omega, ?_⟩))))) <;> ((try simp only [evE, liE, lO, lU, snd] at h2); (try simp only [cmE] at h2))
    · rw [checkL_takeJ (j := j) (by simp; omega) hc, List.drop_eq_getElem_cons (by simpa using hj), checkL, if_pos (by simpa using h2)]; simp; rfl
    · (simp only [evE, liE, lO, lU, snd, Sh.uss, Sh.us, atAddr, map_add0, List.append_nil]); rw [add_i64 j (by omega)]
    · exact checkL_snoc (by simpa using hj) hc (by simpa using h2)
  · rw [List.take_of_length_le (by simp; omega)] at hc
    rw [hc]; rfl
theorem c_check (p : Option Addr) (cp : Nat) (ms : List MD) (q : Option Addr) (cq : Nat) (l : List WD) (hm : ModelsOk ms) (h : ∀ x ∈ l, Wok x.w) (hl : l.length < 2 ^ 62) : RetP Tryd.prog n_analogy_check [slv p ms.length cp, slv q l.length cq] (fun R => ModelsAt R p ms ∧ WordsAt R q l) (.int .i64 (chkM ms (l.map (·.w)))) := by
  refine Fn.of S_analogy_check mx [.p p, .i ms.length, .i cp, .p q, .i l.length, .i cq] rfl rfl fun c hp => .chk (by ((try simp only [evE, liE, lO, lU, snd]); (try simp only [cmE])); omega) (.ite (fun h1 => .ret rfl ?_) (fun h1 => .chk (by ((try simp only [evE, liE, lO, lU, snd]); (try simp only [cmE])); omega) ?_)) <;> ((try simp only [evE, liE, lO, lU, snd] at h1); (try simp only [cmE] at h1))
  · have : chkM ms (l.map (·.w)) = 12 := by unfold chkM; rw [if_pos (by omega)]
    rw [this]; rfl
  have hs : chkM ms (l.map (·.w)) = checkL (mwords ms ++ l.map (·.w)) := by unfold chkM; rw [if_neg (by omega)]
  rw [hs]
  refine .loop (fun n us _ => ∃ (e : Int) (j : Nat), us = [.i e, .i j] ∧ n + j = ms.length ∧ checkL (mwords (ms.take j)) = 0) ms.length ⟨0, 0, rfl, rfl, rfl⟩ ?_
  rintro n _ m _ ⟨e, j, rfl, hn, hc⟩
  refine .env (by (try simp only [liE, lO, lU, snd, aN]); rfl) (.ite (fun h2 => ?_) (fun h2 => .chk (by ((try simp only [evE, liE, lO, lU, snd]); (try simp only [cmE])); omega) ?_)) <;> ((try simp only [evE, liE, lO, lU, snd] at h2); (try simp only [cmE] at h2))
  · have hj : j < ms.length := by omega
    have hok := hm _ (List.getElem_mem hj)
    have hat := hp.1.2 _ (List.getElem_mem hj)
    refine .loadMD ms j hj (fun g => hp.1.1.mono g.R) (.env (by (try simp only [liE, lO, lU, snd, aN]); rfl) (.alloc fun b0 => .alloc fun b1 => .callV (c_check0 (some ⟨b1, 0, none⟩) 2 [ms[j].a, ms[j].b] (by simp [hok.1, hok.2.1]) (by simp)) (fun g => ⟨g.cells (j := 1) rfl rfl rfl, ?_⟩) (.env (by (try simp only [liE, lO, lU, snd, aN]); rfl) (.ite (fun h3 => .ret rfl ?_) (fun h3 => .again rfl ⟨n - 1, by omega, e, j + 1, ?_, by omega, ?_⟩)))))
    · simp only [List.mem_cons, List.not_mem_nil, or_false]
      rintro x (rfl | rfl)
      · exact hat.1.mono g.R
      · exact hat.2.mono g.R
    · ((try simp only [evE, liE, lO, lU, snd] at h3); (try simp only [cmE] at h3))
      replace h3 : checkL [ms[j].a.w, ms[j].b.w] ≠ 0 := h3
      rw [chk_model hj hc h3]; rfl
    · (simp only [evE, liE, lO, lU, snd, Sh.uss, Sh.us, atAddr, map_add0, List.append_nil]); rw [add_i64 j (by omega)]
    · ((try simp only [evE, liE, lO, lU, snd] at h3); (try simp only [cmE] at h3))
      replace h3 : checkL [ms[j].a.w, ms[j].b.w] = 0 := h3
      rw [mwords_snoc hj, checkL_append, if_neg (by simp [hc])]; exact h3
  · rw [List.take_of_length_le (by omega)] at hc
    refine .loop (fun n us _ => ∃ (e : Int) (j : Nat), us = [.i e, .i j] ∧ n + j = l.length ∧ checkL ((l.map (·.w)).take j) = 0) l.length ⟨e, 0, rfl, rfl, rfl⟩ ?_
    rintro n _ m _ ⟨e, j, rfl, hn, hc2⟩
    refine .env (by (try simp only [liE, lO, lU, snd, aN]); rfl) (.ite (fun h1 => ?_) (fun h1 => .ret rfl ?_)) <;> ((try simp only [evE, liE, lO, lU, snd] at h1); (try simp only [cmE] at h1))
    · have hj : j < l.length := by omega
      refine .loadWD l j hj (fun g => hp.2.1.mono g.R) (.env (by (try simp only [liE, lO, lU, snd, aN]); rfl) (.callV (c_wordCheck l[j].p l[j].cap l[j].w (h _ (List.getElem_mem hj))) (fun g => (hp.2.2 _ (List.getElem_mem hj)).mono g.R) (.env (by (try simp only [liE, lO, lU, snd, aN]); rfl) (.ite (fun h2 => .ret rfl ?_) (fun h2 => .again rfl ⟨n - 1, by omega, e, j + 1, ?_, by omega, ?_⟩))))) <;> ((try simp only [evE, liE, lO, lU, snd] at h2); (try simp only [cmE] at h2))
      · rw [checkL_append, if_neg (by simp [hc]), checkL_takeJ (j := j) (by simp; omega) hc2, List.drop_eq_getElem_cons (by simpa using hj), checkL, if_pos (by simpa using h2)]; simp; rfl
      · (simp only [evE, liE, lO, lU, snd, Sh.uss, Sh.us, atAddr, map_add0, List.append_nil]); rw [add_i64 j (by omega)]
      · exact checkL_snoc (by simpa using hj) hc2 (by simpa using h2)
    · rw [List.take_of_length_le (by simp; omega)] at hc2
      rw [checkL_append, if_neg (by simp [hc]), hc2]; rfl
end Go.Proofs.YtpbbnmjkbfbelabDoor


/- Chapter 30: the two kinds of changes. -/
namespace Go.Sy
open Go Go.RowKit
section
variable {P : Program} {c : Cx} {L : List Nat} {ρ : Env} {blks : List Blk} {m : Mem} {R : Value → HW → Prop} {Dn : Nat → List U → HW → Prop} {A : List (List U → HW → Prop)}
end
/-! What a change gives. -/
def applyE (x y c : List Snd) : Option (List Snd) := if x.length ≤ c.length ∧ c.drop (c.length - x.length) = x then some (c.take (c.length - x.length) ++ y) else none
def applyF (x y c : List Snd) : Option (List Snd) := if x.length ≤ c.length ∧ c.take x.length = x then some (y ++ c.drop x.length) else none
def csl (a b : List Snd) : Nat := cpl a.reverse b.reverse
def solveW (a b c : List Snd) : Option (List Snd) := applyE (a.drop (cpl a b)) (b.drop (cpl a b)) c
def frontW (a b c : List Snd) : Option (List Snd) := applyF (a.take (a.length - csl a b)) (b.take (b.length - csl a b)) c
theorem csl_le (a b : List Snd) : csl a b ≤ a.length ∧ csl a b ≤ b.length := by
  have := cpl_le a.reverse b.reverse
  simpa [csl] using this
theorem csl_take {a b : List Snd} {i j : Nat} (ha : i < a.length) (hb : j < b.length) : csl (a.take (i + 1)) (b.take (j + 1)) = if a[i] = b[j] then 1 + csl (a.take i) (b.take j) else 0 := by
  unfold csl
  rw [List.take_succ_eq_append_getElem ha, List.take_succ_eq_append_getElem hb, List.reverse_append, List.reverse_append]
  rfl
theorem csl_zero {a b : List Snd} {i j : Nat} (h : i = 0 ∨ j = 0) : csl (a.take i) (b.take j) = 0 := by
  unfold csl
  rcases h with rfl | rfl
  · simp [cpl]
  · simp only [List.take_zero, List.reverse_nil]
    cases (a.take i).reverse <;> rfl
structure RowW (m : Mem) (et : TypeId) (q : Option Addr) (cap : Nat) (w : List Snd) : Prop where
  row : w ≠ [] → Row m et 2 q cap w.length (wcells w)
  nil : q = none → cap = 0
  le : w.length ≤ cap
theorem RowW.of {m : Mem} {et : TypeId} {q : Option Addr} {cap : Nat} {w : List Snd} (h : Row m et 2 q cap w.length (wcells w)) : RowW m et q cap w := ⟨fun _ => h, row_cap0 h, h.cap_le⟩
theorem RowW.keep {m m' : Mem} {et : TypeId} {q : Option Addr} {cap : Nat} {w : List Snd} (h : RowW m et q cap w) (hk : ∀ b, m b ≠ none → m' b = m b) : RowW m' et q cap w := ⟨fun hw => (h.row hw).keep fun g _ hg => hk g hg, h.nil, h.le⟩
theorem RowW.joinL {m mq : Mem} {et : TypeId} {q : Option Addr} {cap : Nat} {w : List Snd} (h : RowW m et q cap w) : RowW (m.join mq) et q cap w := h.keep fun _ hb => Mem.join_old hb
theorem RowW.joinR {m mq : Mem} {et : TypeId} {q : Option Addr} {cap : Nat} {w : List Snd} (h : RowW mq et q cap w) (hf : ∀ b, mq b ≠ none → m b = none) : RowW (m.join mq) et q cap w := h.keep fun b hb => Mem.join_new (hf b hb)
theorem RowW.reads {m : Mem} {et : TypeId} {q : Option Addr} {cap : Nat} {w : List Snd} (h : RowW m et q cap w) {c : Cx} {L : List Nat} {ρ : Env} {blks : List Blk} (g : Good c L m) : WordAt (vw c L ρ blks m) q w := by
  by_cases hw : w = []
  · rw [hw]; exact fun i x hx => by simp [wcells] at hx
  · exact (h.row hw).reads g
theorem RowW.ok {m : Mem} {et : TypeId} {q : Option Addr} {cap : Nat} {w : List Snd} (h : RowW m et q cap w) : WD.ok ⟨q, cap, w⟩ := ⟨h.le, h.nil⟩
def Opt (et : TypeId) (mq : Mem) (v : Value) (o : Option (List Snd)) : Prop := ∃ q cq, v = .tuple #[slv q (o.getD []).length cq, .bool o.isSome] ∧ RowW mq et q cq (o.getD [])
theorem Opt.none (et : TypeId) (mq : Mem) : Opt et mq (.tuple #[.slice .none 0 0, .bool false]) .none := ⟨.none, 0, rfl, .of (Row.nil _ _ _)⟩
def Res3 (et : TypeId) (mq : Mem) (v : Value) (r : List Snd × Bool × Int) : Prop := ∃ q cq, v = .tuple #[slv q r.1.length cq, .bool r.2.1, .int .i64 r.2.2] ∧ RowW mq et q cq r.1
def oneW (a b c : List Snd) (o : Option (List Snd)) : List Snd × Bool × Int := if checkL [a, b, c] ≠ 0 then ([], false, checkL [a, b, c]) else if (o.getD []).length > 32 then ([], false, 11) else (o.getD [], o.isSome, 0)
theorem res3_fresh (ρ : Env) (L : List Nat) (q : Option Addr) (n cap : Nat) (x : Bool) (e : Int) : ((Sh.tup [.sl, .bool, .int .i64]).fresh ρ.length).1.den L (ρ ++ [.p q, .i n, .i cap, .b x, .i e]) = .tuple #[slv q n cap, .bool x, .int .i64 e] := by
  have e1 := sl_at ρ L q n cap [.b x, .i e]
  have e2 := getElem_env ρ [.p q, .i n, .i cap, .b x, .i e] 3
  have e3 := getElem_env ρ [.p q, .i n, .i cap, .b x, .i e] 4
  simp only [Sh.fresh, Sh.freshs, SV.den, SV.dens, BT.eval, IT.eval, Env.bool, Env.int] at e1 e2 e3 ⊢
  rw [e1, show ρ.length + 1 + 2 = ρ.length + 3 by omega, e2, show ρ.length + 3 + 1 = ρ.length + 4 by omega, e3]
  rfl
theorem two_fresh (ρ : Env) (L : List Nat) (q : Option Addr) (n cap : Nat) (q' : Option Addr) (n' cap' : Nat) : ((Sh.tup [.sl, .sl]).fresh ρ.length).1.den L (ρ ++ [.p q, .i n, .i cap, .p q', .i n', .i cap']) = .tuple #[slv q n cap, slv q' n' cap'] := by
  have e1 := sl_at ρ L q n cap [.p q', .i n', .i cap']
  have e2 := sl_at (ρ ++ [.p q, .i n, .i cap]) L q' n' cap' []
  rw [List.append_assoc] at e2
  simp only [List.cons_append, List.nil_append, List.length_append, List.length_cons, List.length_nil] at e2
  simp only [Sh.fresh, Sh.freshs, SV.den, SV.dens] at e1 e2 ⊢
  rw [e1, e2]
theorem opt_fresh (ρ : Env) (L : List Nat) (q : Option Addr) (n cap : Nat) (x : Bool) : ((Sh.tup [.sl, .bool]).fresh ρ.length).1.den L (ρ ++ [.p q, .i n, .i cap, .b x]) = .tuple #[slv q n cap, .bool x] := by
  have e1 := sl_at ρ L q n cap [.b x]
  have e2 := getElem_env ρ [.p q, .i n, .i cap, .b x] 3
  simp only [Sh.fresh, Sh.freshs, SV.den, SV.dens, BT.eval, Env.bool] at e1 e2 ⊢
  rw [e1, show ρ.length + 1 + 2 = ρ.length + 3 by omega, e2]
  rfl
end Go.Sy
namespace Go.Proofs.YtpbbnmjkbfbelabDoor
open Go Go.Sy Go.RowKit
theorem c_grow (n : Nat) (hn : n < 2 ^ 40) : FnM Tryd.prog n_slices_Grow___api_Sound_api_Sound_ [slv none 0 0, .int .i64 n] (fun _ => True) fun v mq _ => ∃ q cq, v = slv q 0 cq ∧ Row mq 46 2 q cq 0 [] := by
  refine FnM.of S_slices_Grow___api_Sound_api_Sound_ mx [.p none, .i 0, .i 0, .i n] rfl rfl fun c _ => .join (fun us mm => us = [] ∧ mm = Mem.emp) (.no (by ((try simp only [evE, liE, lO, lU, snd]); (try simp only [cmE])); omega) (.again rfl ⟨rfl, rfl⟩)) ?_
  rintro _ _ _ ⟨rfl, rfl⟩
  have e0 : ar .sub .i64 (n : Int) (ar .sub .i64 0 0) = (n : Int) := by rw [show ar .sub .i64 0 0 = 0 from rfl, subI (by omega) (by omega)]; omega
  refine .env (by (try simp only [liE, lO, lU, snd, aN]); rfl) (.capS Tryd.underlying23 none 0 0 (.env (by (try simp only [liE, lO, lU, snd, aN]); rfl) (.chk rfl (.join (fun us mm => ∃ q cq, us = [.p q, .i 0, .i (cq : Nat)] ∧ Row mm 46 2 q cq 0 []) (.ite (fun h1 => ?_) (fun h1 => .again rfl ⟨none, 0, rfl, Row.nil _ _ _⟩)) ?_))))
  · replace h1 : cm .gtr (ar .sub .i64 (n : Int) (ar .sub .i64 0 0)) 0 = true := h1
    rw [e0] at h1
    simp only [cm, decide_eq_true_eq] at h1
    refine .capS Tryd.underlying23 none 0 0 (.env (by (try simp only [liE, lO, lU, snd, aN]); rfl) (.chk rfl (.growNil n el22 Tryd.underlying3 (by omega) (by simp [maxLen]; omega) (by omega) (fun g cap' m' hg hle hr _ => ?_) rfl (by show Value.int _ (ar .sub .i64 (n : Int) (ar .sub .i64 0 0)) = _; rw [e0]))))
    refine .env (by (try simp only [liE, lO, lU, snd, aN]); rfl) (.chk rfl (.chk (by ((try simp only [evE, liE, lO, lU, snd]); (try simp only [cmE])); simp) (.again rfl ⟨some ⟨g, 0, none⟩, cap', ?_, hr⟩)))
    (simp only [evE, liE, lO, lU, snd, Sh.uss, Sh.us, atAddr, map_add0, List.append_nil]); simp [addr_zero]
  · rintro _ m _ ⟨q, cq, rfl, hr⟩
    exact .env (by (try simp only [liE, lO, lU, snd, aN]); rfl) (.ret rfl ⟨q, cq, rfl, hr⟩)
def catJ (l : List WD) : List Snd := l.flatMap (·.w)
theorem cat_snoc {l : List WD} {j : Nat} (hj : j < l.length) : catJ (l.take (j + 1)) = catJ (l.take j) ++ l[j].w := by
  unfold catJ
  rw [List.take_succ_eq_append_getElem hj, List.flatMap_append]; simp
theorem cat_le {l : List WD} (j : Nat) : (catJ (l.take j)).length ≤ (catJ l).length := by
  conv => rhs; rw [← List.take_append_drop j l]
  unfold catJ
  rw [List.flatMap_append, List.length_append]; omega
theorem c_concat (q : Option Addr) (cq : Nat) (l : List WD) (ho : ∀ x ∈ l, x.ok) (hl : l.length < 2 ^ 40) (hn : (catJ l).length < 2 ^ 40) : FnM Tryd.prog n_slices_Concat___api_Sound_api_Sound_ [slv q l.length cq] (fun R => WordsAt R q l) fun v mq _ => ∃ q' cq', v = slv q' (catJ l).length cq' ∧ Row mq 46 2 q' cq' (catJ l).length (wcells (catJ l)) := by
  refine FnM.of S_slices_Concat___api_Sound_api_Sound_ mx [.p q, .i l.length, .i cq] rfl rfl fun c hp => .chk (by ((try simp only [evE, liE, lO, lU, snd]); (try simp only [cmE])); omega) ?_
  refine .loop (fun n us mm => ∃ j : Nat, us = [.i ((catJ (l.take j)).length : Nat), .i j] ∧ n + j = l.length ∧ mm = Mem.emp) l.length ⟨0, rfl, rfl, rfl⟩ ?_
  rintro n _ _ _ ⟨j, rfl, hn', rfl⟩
  refine .ite (fun h1 => ?_) (fun h1 => ?_) <;> ((try simp only [evE, liE, lO, lU, snd] at h1); (try simp only [cmE] at h1))
  · have hj : j < l.length := by omega
    have hc := cat_le (l := l) (j + 1)
    have hs := congrArg List.length (cat_snoc hj)
    rw [List.length_append] at hs
    have e1 : ar .add .i64 ((catJ (l.take j)).length : Int) (l[j].w.length : Int) = ((catJ (l.take (j + 1))).length : Nat) := by rw [addI (by omega) (by omega), hs]; omega
    refine .loadWD l j hj (fun g => hp.1.mono g.R) (.env (by (try simp only [liE, lO, lU, snd, aN]); rfl) (.chk (by ((try simp only [evE, liE, lO, lU, snd]); (try simp only [cmE])); omega) (.join (fun us mm => us = [] ∧ mm = Mem.emp) (.no ?_ (.again rfl ⟨rfl, rfl⟩)) ?_)))
    · show cm .lss (ar .add .i64 ((catJ (l.take j)).length : Int) (l[j].w.length : Int)) 0 = false
      rw [e1]; simp only [cm, decide_eq_false_iff_not]; omega
    · rintro _ _ _ ⟨rfl, rfl⟩
      refine .env (by (try simp only [liE, lO, lU, snd, aN]); rfl) (.again rfl ⟨n - 1, by omega, j + 1, ?_, by omega, rfl⟩)
      (simp only [evE, liE, lO, lU, snd, Sh.uss, Sh.us, atAddr, map_add0, List.append_nil]); rw [add_i64 j (by omega), e1]
  · rw [List.take_of_length_le (by omega)]
    refine .env (by (try simp only [liE, lO, lU, snd, aN]); rfl) (.callM (c_grow (catJ l).length hn) rfl rfl (fun _ => trivial) ?_)
    rintro v mq hf ⟨q1, c1, rfl, hr1⟩
    refine ⟨[.p q1, .i 0, .i c1], uOk_of rfl, (slv_fresh _ _ _ _ _).symm, ?_⟩
    replace hr1 := hr1.joinR (m := Mem.emp) fun b hb => (hf b hb).1
    refine .env (by (try simp only [liE, lO, lU, snd, aN]); rfl) (.chk (by ((try simp only [evE, liE, lO, lU, snd]); (try simp only [cmE])); omega) (.loop (fun n us mm => ∃ (j : Nat) (q1 : Option Addr) (c1 : Nat), us = [.p q1, .i ((catJ (l.take j)).length : Nat), .i (c1 : Nat), .i j] ∧ n + j = l.length ∧ Row mm 46 2 q1 c1 (catJ (l.take j)).length (wcells (catJ (l.take j)))) l.length ⟨0, q1, c1, by (simp only [evE, liE, lO, lU, snd, Sh.uss, Sh.us, atAddr, map_add0, List.append_nil]); rfl, rfl, hr1⟩ ?_))
    clear hr1 hf
    rintro n _ m _ ⟨j, q1, c1, rfl, hn', hr1⟩
    refine .env (by (try simp only [liE, lO, lU, snd, aN]); rfl) (.ite (fun h1 => ?_) (fun h1 => .ret rfl ⟨q1, c1, ?_⟩)) <;> ((try simp only [evE, liE, lO, lU, snd] at h1); (try simp only [cmE] at h1))
    · have hj : j < l.length := by omega
      have hc := cat_le (l := l) (j + 1)
      have hs := congrArg List.length (cat_snoc hj)
      rw [List.length_append] at hs
      refine .loadWD l j hj (fun g => hp.1.mono g.R) (.env (by (try simp only [liE, lO, lU, snd, aN]); rfl) (.append (q := q1) (cap := c1) (n := (catJ (l.take j)).length) (qx := l[j].p) (kx := l[j].w.length) (capx := l[j].cap) (news := wcells l[j].w) el22 hr1 (fun g => (hp.2 _ (List.getElem_mem hj)).mono g.R) (wcells_len _) (wcells_one _) (ho _ (List.getElem_mem hj)).nil (by simp [maxLen]; omega) (by omega) (fun q' cq' m' hr' _ _ => .again rfl ⟨n - 1, by omega, j + 1, q', cq', ?_, by omega, ?_⟩)))
      · (simp only [evE, liE, lO, lU, snd, Sh.uss, Sh.us, atAddr, map_add0, List.append_nil]); rw [add_i64 j (by omega), hs]
      · rw [cat_snoc hj, wcells_append, List.length_append]; exact hr'
    · rw [List.take_of_length_le (by omega)] at hr1 ⊢
      exact ⟨rfl, hr1⟩
theorem c_E1 (A B : WD) (oa : A.ok) (ob : B.ok) (la : A.w.length < 2 ^ 38) (lb : B.w.length < 2 ^ 38) : FnM Tryd.prog n_analogy_ending_1 [A.v, B.v] (fun R => WordAt R A.p A.w ∧ WordAt R B.p B.w) fun v _ _ => v = .tuple #[(A.from (cpl A.w B.w)).v, (B.from (cpl A.w B.w)).v] := by
  refine FnM.of S_analogy_ending_1 mx [.p A.p, .i A.w.length, .i A.cap, .p B.p, .i B.w.length, .i B.cap] rfl rfl fun c hp => .callM (c_common A.p B.p A.cap B.cap A.w B.w (by omega) (by omega)) rfl rfl (fun g => ⟨hp.1.mono g.R, hp.2.mono g.R⟩) ?_
  rintro v mq hf ⟨k, rfl⟩
  have hle := cpl_le A.w B.w
  have := oa.le; have := ob.le
  refine ⟨[.i (cpl A.w B.w : Nat), .i k], uOk_of rfl, rfl, .env (by (try simp only [liE, lO, lU, snd, aN]); rfl) (.chk (by ((try simp only [evE, liE, lO, lU, snd]); (try simp only [cmE])); omega) (.chk (by ((try simp only [evE, liE, lO, lU, snd]); (try simp only [cmE])); omega) (.ret ?_ rfl)))⟩
  simp only [SV.den, SV.dens]
  have e1 := den_from (L := []) (ρ := [.p A.p, .i A.w.length, .i A.cap, .p B.p, .i B.w.length, .i B.cap, .i (cpl A.w B.w : Nat), .i k]) (i := 0) (C := .var 2) (N := .var 6) (Ln := .var 1) (x := A) (n := cpl A.w B.w) rfl rfl rfl rfl
  have e2 := den_from (L := []) (ρ := [.p A.p, .i A.w.length, .i A.cap, .p B.p, .i B.w.length, .i B.cap, .i (cpl A.w B.w : Nat), .i k]) (i := 3) (C := .var 5) (N := .var 6) (Ln := .var 4) (x := B) (n := cpl A.w B.w) rfl rfl rfl rfl
  simp only [SV.den] at e1 e2
  rw [e1, e2]
end Go.Proofs.YtpbbnmjkbfbelabDoor


/- Chapter 30: the two kinds of changes, applied. -/
namespace Go.Proofs.YtpbbnmjkbfbelabDoor
open Go Go.Sy Go.RowKit
theorem c_E2 (X Y C : WD) (ox : X.ok) (oy : Y.ok) (oc : C.ok) (lx : X.w.length < 2 ^ 38) (ly : Y.w.length < 2 ^ 38) (lc : C.w.length < 2 ^ 38) : FnM Tryd.prog n_analogy_ending_2 [X.v, Y.v, C.v] (fun R => WordAt R X.p X.w ∧ WordAt R Y.p Y.w ∧ WordAt R C.p C.w) fun v mq _ => Opt 46 mq v (applyE X.w Y.w C.w) := by
  refine FnM.of S_analogy_ending_2 mx [.p X.p, .i X.w.length, .i X.cap, .p Y.p, .i Y.w.length, .i Y.cap, .p C.p, .i C.w.length, .i C.cap] rfl rfl fun c hp => .chk (by ((try simp only [evE, liE, lO, lU, snd]); (try simp only [cmE])); omega) (.chk (by ((try simp only [evE, liE, lO, lU, snd]); (try simp only [cmE])); omega) (.ite (fun h1 => .ret rfl ?_) (fun h1 => ?_)))
  all_goals
    have es : ar .sub .i64 (C.w.length : Int) (X.w.length : Int) = (C.w.length : Int) - X.w.length := subI (by omega) (by omega)
  · replace h1 : cm .lss (ar .sub .i64 (C.w.length : Int) (X.w.length : Int)) 0 = true := h1
    rw [es] at h1
    simp only [cm, decide_eq_true_eq] at h1
    have : applyE X.w Y.w C.w = none := by unfold applyE; rw [if_neg (by omega)]
    rw [this]; exact Opt.none _ _
  replace h1 : cm .lss (ar .sub .i64 (C.w.length : Int) (X.w.length : Int)) 0 = false := h1
  rw [es] at h1
  simp only [cm, decide_eq_false_iff_not] at h1
  have hcap := oc.le
  obtain ⟨n, hn⟩ : ∃ n, n = C.w.length - X.w.length := ⟨_, rfl⟩
  have en : ar .sub .i64 (C.w.length : Int) (X.w.length : Int) = (n : Int) := by rw [es]; omega
  have hnl : n ≤ C.w.length := by omega
  have hfl : (C.from n).w.length ≤ C.w.length := by simp [WD.from]
  refine .chk ?_ (.callV (c_wordEqual (C.from n).p X.p (C.from n).cap X.cap (C.from n).w X.w (by omega)) (fun g => ⟨WordAt.from (hp.2.2.mono g.R) oc.le n, hp.1.mono g.R⟩) ?_ (hargs := ?_))
  · show (bif cm .leq 0 (ar .sub .i64 (C.w.length : Int) (X.w.length : Int)) then (bif cm .leq (ar .sub .i64 (C.w.length : Int) (X.w.length : Int)) (C.w.length : Int) then cm .leq (C.w.length : Int) (C.cap : Int) else false) else false) = true
    rw [en]
    simp only [cm, pick_and, Bool.and_eq_true, decide_eq_true_eq]; omega
  · refine .env (by (try simp only [liE, lO, lU, snd, aN]); rfl) (.ite (fun h2 => .ret rfl ?_) (fun h2 => ?_))
    · replace h2 : (!decide ((C.from n).w = X.w)) = true := h2
      have : applyE X.w Y.w C.w = none := by
        unfold applyE
        rw [if_neg]
        rintro ⟨_, q⟩
        rw [← hn] at q
        simp [WD.from, q] at h2
      rw [this]; exact Opt.none _ _
    · replace h2 : (!decide ((C.from n).w = X.w)) = false := h2
      rw [Bool.not_eq_false', decide_eq_true_eq] at h2
      replace h2 : C.w.drop n = X.w := h2
      have happ : applyE X.w Y.w C.w = some (C.w.take n ++ Y.w) := by
        unfold applyE
        rw [← hn, if_pos ⟨by omega, h2⟩]
      have hcat : catJ [C.upto n, Y] = C.w.take n ++ Y.w := by simp [catJ, WD.upto]
      refine .chk ?_ (.alloc fun b0 => .callM (c_concat (some ⟨b0, 0, none⟩) 2 [C.upto n, Y] ?_ (by simp) ?_) rfl rfl (fun g => ⟨g.cells (j := 0) rfl rfl ?_, ?_⟩) ?_)
      · show (bif cm .leq 0 (ar .sub .i64 (C.w.length : Int) (X.w.length : Int)) then cm .leq (ar .sub .i64 (C.w.length : Int) (X.w.length : Int)) (C.cap : Int) else false) = true
        rw [en]
        simp only [cm, pick_and, Bool.and_eq_true, decide_eq_true_eq]; omega
      · simp only [List.mem_cons, List.not_mem_nil, or_false]
        rintro x (rfl | rfl)
        · exact WD.upto_ok oc n
        · exact oy
      · rw [hcat]; simp; omega
      · simp only [SV.dens]
        rw [den_upto (x := C) (n := n) rfl rfl (by show ar .sub .i64 (C.w.length : Int) (X.w.length : Int) = _; exact en) hnl]; rfl
      · simp only [List.mem_cons, List.not_mem_nil, or_false]
        rintro x (rfl | rfl)
        · exact WordAt.upto (hp.2.2.mono g.R) n
        · exact hp.2.1.mono g.R
      · rintro v mq hf ⟨q, cq, rfl, hr⟩
        rw [hcat] at hr ⊢
        refine ⟨[.p q, .i _, .i cq], ⟨_, _, _, rfl⟩, (slv_fresh _ _ _ _ _).symm, .env (by (try simp only [liE, lO, lU, snd, aN]); rfl) (.ret rfl ?_)⟩
        rw [happ]
        exact ⟨q, cq, rfl, .of (hr.joinR fun b hb => (hf b hb).1)⟩
  · simp only [SV.dens]
    rw [den_from (x := C) (n := n) rfl rfl (by show ar .sub .i64 (C.w.length : Int) (X.w.length : Int) = _; exact en) rfl]
    rfl
theorem c_F2 (X Y C : WD) (ox : X.ok) (oy : Y.ok) (oc : C.ok) (lx : X.w.length < 2 ^ 38) (ly : Y.w.length < 2 ^ 38) (lc : C.w.length < 2 ^ 38) : FnM Tryd.prog n_analogy_beginning_2 [X.v, Y.v, C.v] (fun R => WordAt R X.p X.w ∧ WordAt R Y.p Y.w ∧ WordAt R C.p C.w) fun v mq _ => Opt 46 mq v (applyF X.w Y.w C.w) := by
  refine FnM.of S_analogy_beginning_2 mx [.p X.p, .i X.w.length, .i X.cap, .p Y.p, .i Y.w.length, .i Y.cap, .p C.p, .i C.w.length, .i C.cap] rfl rfl fun c hp => .chk (by ((try simp only [evE, liE, lO, lU, snd]); (try simp only [cmE])); omega) (.chk (by ((try simp only [evE, liE, lO, lU, snd]); (try simp only [cmE])); omega) (.ite (fun h1 => .ret rfl ?_) (fun h1 => ?_)))
  · ((try simp only [evE, liE, lO, lU, snd] at h1); (try simp only [cmE] at h1))
    have : applyF X.w Y.w C.w = none := by unfold applyF; rw [if_neg (by omega)]
    rw [this]; exact Opt.none _ _
  ((try simp only [evE, liE, lO, lU, snd] at h1); (try simp only [cmE] at h1))
  have hcap := oc.le
  have hnl : X.w.length ≤ C.w.length := by omega
  have hul : (C.upto X.w.length).w.length ≤ C.w.length := by simp [WD.upto]; omega
  refine .chk (by ((try simp only [evE, liE, lO, lU, snd]); (try simp only [cmE])); omega) (.chk (by ((try simp only [evE, liE, lO, lU, snd]); (try simp only [cmE])); omega) (.callV (c_wordEqual (C.upto X.w.length).p X.p (C.upto X.w.length).cap X.cap (C.upto X.w.length).w X.w (by omega)) (fun g => ⟨WordAt.upto (hp.2.2.mono g.R) _, hp.1.mono g.R⟩) ?_ (hargs := ?_)))
  · refine .env (by (try simp only [liE, lO, lU, snd, aN]); rfl) (.ite (fun h2 => .ret rfl ?_) (fun h2 => ?_))
    · replace h2 : (!decide ((C.upto X.w.length).w = X.w)) = true := h2
      have : applyF X.w Y.w C.w = none := by
        unfold applyF
        rw [if_neg]
        rintro ⟨_, q⟩
        simp [WD.upto, q] at h2
      rw [this]; exact Opt.none _ _
    · replace h2 : (!decide ((C.upto X.w.length).w = X.w)) = false := h2
      rw [Bool.not_eq_false', decide_eq_true_eq] at h2
      replace h2 : C.w.take X.w.length = X.w := h2
      have happ : applyF X.w Y.w C.w = some (Y.w ++ C.w.drop X.w.length) := by
        unfold applyF
        rw [if_pos ⟨by omega, h2⟩]
      have hcat : catJ [Y, C.from X.w.length] = Y.w ++ C.w.drop X.w.length := by simp [catJ, WD.from]
      refine .chk (by ((try simp only [evE, liE, lO, lU, snd]); (try simp only [cmE])); omega) (.chk (by ((try simp only [evE, liE, lO, lU, snd]); (try simp only [cmE])); omega) (.alloc fun b0 => .callM (c_concat (some ⟨b0, 0, none⟩) 2 [Y, C.from X.w.length] ?_ (by simp) ?_) rfl rfl (fun g => ⟨g.cells (j := 0) rfl rfl ?_, ?_⟩) ?_))
      · simp only [List.mem_cons, List.not_mem_nil, or_false]
        rintro x (rfl | rfl)
        · exact oy
        · exact WD.from_ok oc hnl
      · rw [hcat]; simp; omega
      · simp only [SV.dens]
        rw [den_from (x := C) (n := X.w.length) rfl rfl rfl rfl]; rfl
      · simp only [List.mem_cons, List.not_mem_nil, or_false]
        rintro x (rfl | rfl)
        · exact hp.2.1.mono g.R
        · exact WordAt.from (hp.2.2.mono g.R) oc.le _
      · rintro v mq hf ⟨q, cq, rfl, hr⟩
        rw [hcat] at hr ⊢
        refine ⟨[.p q, .i _, .i cq], ⟨_, _, _, rfl⟩, (slv_fresh _ _ _ _ _).symm, .env (by (try simp only [liE, lO, lU, snd, aN]); rfl) (.ret rfl ?_)⟩
        rw [happ]
        exact ⟨q, cq, rfl, .of (hr.joinR fun b hb => (hf b hb).1)⟩
  · simp only [SV.dens]
    rw [den_upto (x := C) (n := X.w.length) rfl rfl rfl hnl]
    rfl
theorem c_F1 (A B : WD) (oa : A.ok) (ob : B.ok) (la : A.w.length < 2 ^ 38) (lb : B.w.length < 2 ^ 38) : FnM Tryd.prog n_analogy_beginning_1 [A.v, B.v] (fun R => WordAt R A.p A.w ∧ WordAt R B.p B.w) fun v _ _ => v = .tuple #[(A.upto (A.w.length - csl A.w B.w)).v, (B.upto (B.w.length - csl A.w B.w)).v] := by
  refine FnM.of S_analogy_beginning_1 mx [.p A.p, .i A.w.length, .i A.cap, .p B.p, .i B.w.length, .i B.cap] rfl rfl fun c hp => .chk (by ((try simp only [evE, liE, lO, lU, snd]); (try simp only [cmE])); omega) (.chk (by ((try simp only [evE, liE, lO, lU, snd]); (try simp only [cmE])); omega) ?_)
  have hca := oa.le; have hcb := ob.le
  refine .loop (fun n us _ => ∃ i k : Nat, us = [.i i, .i k] ∧ n = i ∧ i ≤ A.w.length ∧ k ≤ B.w.length ∧ A.w.length - i = B.w.length - k ∧ csl A.w B.w = (A.w.length - i) + csl (A.w.take i) (B.w.take k)) A.w.length ⟨A.w.length, B.w.length, rfl, rfl, Nat.le_refl _, Nat.le_refl _, by omega, by simp⟩ ?_
  rintro n _ m _ ⟨i, k, rfl, rfl, hi, hk, hd, hc⟩
  have fin : csl (A.w.take n) (B.w.take k) = 0 → DenM Tryd.prog (outM c fun v _ => v = .tuple #[(A.upto (A.w.length - csl A.w B.w)).v, (B.upto (B.w.length - csl A.w B.w)).v]) (fun _ _ _ => False) (.chk (.pick (.cmp .leq (.lit 0) (.var 6)) (.cmp .leq (.var 6) (.var 2)) (.lit false)) (.chk (.pick (.cmp .leq (.lit 0) (.var 7)) (.cmp .leq (.var 7) (.var 5)) (.lit false))
      (.ret (.tup [(.sl 0 (.ifeq (.var 2) (.lit 0) (.lit 0) (.lit 0)) (.var 6) (.var 2)), (.sl 3 (.ifeq (.var 5) (.lit 0) (.lit 0) (.lit 0)) (.var 7) (.var 5))]) []))) [] [.p A.p, .i A.w.length, .i A.cap, .p B.p, .i B.w.length, .i B.cap, .i n, .i k] c m ([].take 0 ++ [inM c fun us' m'' => ∃ n', n' < n ∧ ∃ i k : Nat, us' = [.i i, .i k] ∧ n' = i ∧ i ≤ A.w.length ∧ k ≤ B.w.length ∧ A.w.length - i = B.w.length - k ∧ csl A.w B.w = (A.w.length - i) + csl (A.w.take i) (B.w.take k)]) := fun h0 => by
    have e1 : A.w.length - csl A.w B.w = n := by omega
    have e2 : B.w.length - csl A.w B.w = k := by omega
    rw [e1, e2]
    refine .chk (by ((try simp only [evE, liE, lO, lU, snd]); (try simp only [cmE])); omega) (.chk (by ((try simp only [evE, liE, lO, lU, snd]); (try simp only [cmE])); omega) (.ret ?_ rfl))
    have q1 := den_upto (L := []) (ρ := [.p A.p, .i A.w.length, .i A.cap, .p B.p, .i B.w.length, .i B.cap, .i n, .i k]) (i := 0) (C := .var 2) (N := .var 6) (x := A) (n := n) rfl rfl rfl hi
    have q2 := den_upto (L := []) (ρ := [.p A.p, .i A.w.length, .i A.cap, .p B.p, .i B.w.length, .i B.cap, .i n, .i k]) (i := 3) (C := .var 5) (N := .var 7) (x := B) (n := k) rfl rfl rfl hk
    simp only [SV.den, SV.dens] at q1 q2 ⊢
    rw [q1, q2]
  refine .env rfl (.ite (fun h1 => ?_) (fun h1 => fin (csl_zero ?_))) <;> ((try simp only [evE, liE, lO, lU, snd] at h1); (try simp only [cmE] at h1))
  · obtain ⟨i, rfl⟩ : ∃ i, n = i + 1 := ⟨n - 1, by omega⟩
    obtain ⟨j, rfl⟩ : ∃ j, k = j + 1 := ⟨k - 1, by omega⟩
    have e1 : ar .sub .i64 ((i + 1 : Nat) : Int) 1 = (i : Int) := by rw [subI (by omega) (by omega)]; omega
    have e2 : ar .sub .i64 ((j + 1 : Nat) : Int) 1 = (j : Int) := by rw [subI (by omega) (by omega)]; omega
    rw [csl_take (by omega) (by omega)] at hc
    refine .loadW A.w i (by omega) (fun g => hp.1.mono g.R) (.env (by (try simp only [liE, lO, lU, snd, aN]); rfl) (.loadW B.w j (by omega) (fun g => hp.2.mono g.R) (.env (by (try simp only [liE, lO, lU, snd, aN]); rfl) (.ite (fun h2 => ?_) (fun h2 => ?_))) (by show ar .sub .i64 _ _ = _; exact e2) rfl)) (by show ar .sub .i64 _ _ = _; exact e1) rfl <;> ((try simp only [evE, liE, lO, lU, snd] at h2); (try simp only [cmE] at h2))
    · rw [if_pos (snd_eq.1 h2)] at hc
      refine .again rfl ⟨i, by omega, i, j, ?_, rfl, by omega, by omega, by omega, by omega⟩
      (simp only [evE, liE, lO, lU, snd, Sh.uss, Sh.us, atAddr, map_add0, List.append_nil]); rw [e1, e2]
    · have hne : ¬ A.w[i] = B.w[j] := fun e => by have := snd_eq.2 e; simp [this.1, this.2] at h2
      have h0 : csl (A.w.take (i + 1)) (B.w.take (j + 1)) = 0 := by rw [csl_take (by omega) (by omega), if_neg hne]
      have q := fin h0
      rw [if_neg hne] at hc
      have e1 : A.w.length - csl A.w B.w = i + 1 := by omega
      have e2 : B.w.length - csl A.w B.w = j + 1 := by omega
      rw [e1, e2]
      refine .chk (by ((try simp only [evE, liE, lO, lU, snd]); (try simp only [cmE])); omega) (.chk (by ((try simp only [evE, liE, lO, lU, snd]); (try simp only [cmE])); omega) (.ret ?_ rfl))
      have q1 := den_upto (L := []) (ρ := [.p A.p, .i A.w.length, .i A.cap, .p B.p, .i B.w.length, .i B.cap, .i (i + 1 : Nat), .i (j + 1 : Nat), .i A.w[i].1, .i A.w[i].2, .i B.w[j].1, .i B.w[j].2]) (i := 0) (C := .var 2) (N := .var 6) (x := A) (n := i + 1) rfl rfl rfl hi
      have q2 := den_upto (L := []) (ρ := [.p A.p, .i A.w.length, .i A.cap, .p B.p, .i B.w.length, .i B.cap, .i (i + 1 : Nat), .i (j + 1 : Nat), .i A.w[i].1, .i A.w[i].2, .i B.w[j].1, .i B.w[j].2]) (i := 3) (C := .var 5) (N := .var 7) (x := B) (n := j + 1) rfl rfl rfl hk
      simp only [SV.den, SV.dens] at q1 q2 ⊢
      rw [q1, q2]
  · rcases h1 with h | h
    · exact .inl (by omega)
    · exact .inr (by omega)
abbrev fE1 : Value := .func (.func n_analogy_ending_1) #[] #[]
abbrev fE2 : Value := .func (.func n_analogy_ending_2) #[] #[]
theorem c_chgE (A B C : WD) (oa : A.ok) (ob : B.ok) (oc : C.ok) (la : A.w.length < 2 ^ 38) (lb : B.w.length < 2 ^ 38) (lc : C.w.length < 2 ^ 38) : FnM Tryd.prog n__analogy_change__solve [.agg #[fE1, fE2], A.v, B.v, C.v] (fun R => WordAt R A.p A.w ∧ WordAt R B.p B.w ∧ WordAt R C.p C.w) fun v mq _ => Opt 46 mq v (solveW A.w B.w C.w) := by
  refine FnM.of S__analogy_change__solve mx [.v fE1, .v fE2, .p A.p, .i A.w.length, .i A.cap, .p B.p, .i B.w.length, .i B.cap, .p C.p, .i C.w.length, .i C.cap] rfl rfl fun c hp => .alloc fun b0 => ?_
  refine .callvM (FnV.of0 (by kernel_rfl) (c_E1 A B oa ob la lb)) rfl rfl rfl (fun g => ⟨hp.1.mono g.R, hp.2.1.mono g.R⟩) ?_
  rintro v mq hf rfl
  have hXe : (A.from (cpl A.w B.w)).w = A.w.drop (cpl A.w B.w) := rfl
  have hYe : (B.from (cpl A.w B.w)).w = B.w.drop (cpl A.w B.w) := rfl
  have hs : solveW A.w B.w C.w = applyE (A.from (cpl A.w B.w)).w (B.from (cpl A.w B.w)).w C.w := rfl
  have hx : WordAt c.R (A.from (cpl A.w B.w)).p (A.from (cpl A.w B.w)).w := WordAt.from hp.1 oa.le _
  have hy : WordAt c.R (B.from (cpl A.w B.w)).p (B.from (cpl A.w B.w)).w := WordAt.from hp.2.1 ob.le _
  have ox : (A.from (cpl A.w B.w)).ok := WD.from_ok oa (cpl_le _ _).1
  have oy : (B.from (cpl A.w B.w)).ok := WD.from_ok ob (cpl_le _ _).2
  have lX : (A.from (cpl A.w B.w)).w.length < 2 ^ 38 := by rw [hXe]; simp; omega
  have lY : (B.from (cpl A.w B.w)).w.length < 2 ^ 38 := by rw [hYe]; simp; omega
  rw [hs]
  generalize A.from (cpl A.w B.w) = X at *
  generalize B.from (cpl A.w B.w) = Y at *
  refine ⟨[.p X.p, .i X.w.length, .i X.cap, .p Y.p, .i Y.w.length, .i Y.cap], uOk_of rfl, (two_fresh _ _ _ _ _ _ _ _).symm, ?_⟩
  refine .env (by (try simp only [liE, lO, lU, snd, aN]); rfl) (.callvM (FnV.of0 (by kernel_rfl) (c_E2 X Y C ox oy oc lX lY lc)) rfl rfl rfl (fun g => ⟨hx.mono g.R, hy.mono g.R, hp.2.2.mono g.R⟩) ?_)
  rintro v mq2 hf2 ⟨q, cq, rfl, hr⟩
  refine ⟨[.p q, .i (_ : Nat), .i (cq : Nat), .b _], uOk_of rfl, (opt_fresh _ _ _ _ _ _).symm, .env (by (try simp only [liE, lO, lU, snd, aN]); rfl) (.ret rfl ⟨q, cq, rfl, hr.joinR fun b hb => (hf2 b hb).1⟩)⟩
abbrev fF1 : Value := .func (.func n_analogy_beginning_1) #[] #[]
abbrev fF2 : Value := .func (.func n_analogy_beginning_2) #[] #[]
theorem c_chgF (A B C : WD) (oa : A.ok) (ob : B.ok) (oc : C.ok) (la : A.w.length < 2 ^ 38) (lb : B.w.length < 2 ^ 38) (lc : C.w.length < 2 ^ 38) : FnM Tryd.prog n__analogy_change__solve [.agg #[fF1, fF2], A.v, B.v, C.v] (fun R => WordAt R A.p A.w ∧ WordAt R B.p B.w ∧ WordAt R C.p C.w) fun v mq _ => Opt 46 mq v (frontW A.w B.w C.w) := by
  refine FnM.of S__analogy_change__solve mx [.v fF1, .v fF2, .p A.p, .i A.w.length, .i A.cap, .p B.p, .i B.w.length, .i B.cap, .p C.p, .i C.w.length, .i C.cap] rfl rfl fun c hp => .alloc fun b0 => ?_
  refine .callvM (FnV.of0 (by kernel_rfl) (c_F1 A B oa ob la lb)) rfl rfl rfl (fun g => ⟨hp.1.mono g.R, hp.2.1.mono g.R⟩) ?_
  rintro v mq hf rfl
  have hXe : (A.upto (A.w.length - csl A.w B.w)).w = A.w.take (A.w.length - csl A.w B.w) := rfl
  have hYe : (B.upto (B.w.length - csl A.w B.w)).w = B.w.take (B.w.length - csl A.w B.w) := rfl
  have hs : frontW A.w B.w C.w = applyF (A.upto (A.w.length - csl A.w B.w)).w (B.upto (B.w.length - csl A.w B.w)).w C.w := rfl
  have hx : WordAt c.R (A.upto (A.w.length - csl A.w B.w)).p (A.upto (A.w.length - csl A.w B.w)).w := WordAt.upto hp.1 _
  have hy : WordAt c.R (B.upto (B.w.length - csl A.w B.w)).p (B.upto (B.w.length - csl A.w B.w)).w := WordAt.upto hp.2.1 _
  have ox : (A.upto (A.w.length - csl A.w B.w)).ok := WD.upto_ok oa _
  have oy : (B.upto (B.w.length - csl A.w B.w)).ok := WD.upto_ok ob _
  have lX : (A.upto (A.w.length - csl A.w B.w)).w.length < 2 ^ 38 := by rw [hXe]; simp; omega
  have lY : (B.upto (B.w.length - csl A.w B.w)).w.length < 2 ^ 38 := by rw [hYe]; simp; omega
  rw [hs]
  generalize A.upto (A.w.length - csl A.w B.w) = X at *
  generalize B.upto (B.w.length - csl A.w B.w) = Y at *
  refine ⟨[.p X.p, .i X.w.length, .i X.cap, .p Y.p, .i Y.w.length, .i Y.cap], uOk_of rfl, (two_fresh _ _ _ _ _ _ _ _).symm, ?_⟩
  refine .env (by (try simp only [liE, lO, lU, snd, aN]); rfl) (.callvM (FnV.of0 (by kernel_rfl) (c_F2 X Y C ox oy oc lX lY lc)) rfl rfl rfl (fun g => ⟨hx.mono g.R, hy.mono g.R, hp.2.2.mono g.R⟩) ?_)
  rintro v mq2 hf2 ⟨q, cq, rfl, hr⟩
  refine ⟨[.p q, .i (_ : Nat), .i (cq : Nat), .b _], uOk_of rfl, (opt_fresh _ _ _ _ _ _).symm, .env (by (try simp only [liE, lO, lU, snd, aN]); rfl) (.ret rfl ⟨q, cq, rfl, hr.joinR fun b hb => (hf2 b hb).1⟩)⟩
end Go.Proofs.YtpbbnmjkbfbelabDoor


/- Chapter 30: Solve and Front. -/
namespace Go.Sy
open Go Go.RowKit
theorem checkL_three {a b c : List Snd} (h : checkL [a, b, c] = 0) : a.length ≤ 32 ∧ b.length ≤ 32 ∧ c.length ≤ 32 := by
  have q : ∀ {w : List Snd} {l : List (List Snd)}, checkL (w :: l) = 0 → w.length ≤ 32 ∧ checkL l = 0 := fun {w l} h => by
    unfold checkL at h
    split at h
    · rename_i h2; exact absurd h h2
    · rename_i h2
      simp only [ne_eq, Decidable.not_not] at h2
      unfold checkW at h2
      split at h2
      · omega
      · exact ⟨by omega, h⟩
  exact ⟨(q h).1, (q (q h).2).1, (q (q (q h).2).2).1⟩
theorem vals_fresh (ρ : Env) (L : List Nat) (x y : Value) : ((Sh.agg [.val, .val]).fresh ρ.length).1.den L (ρ ++ [.v x, .v y]) = .agg #[x, y] := by
  have e1 := getElem_env ρ [.v x, .v y] 0
  have e2 := getElem_env ρ [.v x, .v y] 1
  rw [Nat.add_zero] at e1
  simp only [Sh.fresh, Sh.freshs, SV.den, SV.dens, Env.val]
  rw [e1, e2]
  rfl
end Go.Sy
namespace Go.Proofs.YtpbbnmjkbfbelabDoor
open Go Go.Sy Go.RowKit
def VarsOk (R : Mv) : Prop := (R g_analogy_ending 0 = some fE1 ∧ R g_analogy_ending 1 = some fE2) ∧ R g_analogy_beginning 0 = some fF1 ∧ R g_analogy_beginning 1 = some fF2
theorem VarsOk.mono {R S : Mv} (h : VarsOk R) (hle : R.le S) : VarsOk S := ⟨⟨hle _ _ _ h.1.1, hle _ _ _ h.1.2⟩, hle _ _ _ h.2.1, hle _ _ _ h.2.2⟩
theorem _root_.Go.Sy.DenM.loadE {c : Cx} {L : List Nat} {ρ : Env} {blks : List Blk} {m : Mem} {R : Value → HW → Prop} {Dn : Nat → List U → HW → Prop} {A : List (List U → HW → Prop)} {ty : TypeId} {k : Tree} (hV : Good c L m → VarsOk (vw c L ρ blks m)) (hk : DenM Tryd.prog R Dn k L (ρ ++ [.v fE1, .v fE2]) c m A) :
    DenM Tryd.prog R Dn (.extp ⟨.load 83 (.tmp 0), ty, [.cst (.pointer (some ⟨g_analogy_ending, 0, none⟩))]⟩ (.agg [.val, .val]) blks k) L ρ c m A := .loadGl [.v fE1, .v fE2] [fE1, fE2] Tryd.underlying83 (by kernel_rfl) (by kernel_rfl) (fun g j v hj => by
  have h := hV g
  match j, hj with
  | 0, hj => cases hj; exact h.1.1
  | 1, hj => cases hj; exact h.1.2
  | j + 2, hj => simp at hj) rfl (vals_fresh _ _ _ _) hk
theorem _root_.Go.Sy.DenM.loadF {c : Cx} {L : List Nat} {ρ : Env} {blks : List Blk} {m : Mem} {R : Value → HW → Prop} {Dn : Nat → List U → HW → Prop} {A : List (List U → HW → Prop)} {ty : TypeId} {k : Tree} (hV : Good c L m → VarsOk (vw c L ρ blks m)) (hk : DenM Tryd.prog R Dn k L (ρ ++ [.v fF1, .v fF2]) c m A) :
    DenM Tryd.prog R Dn (.extp ⟨.load 83 (.tmp 0), ty, [.cst (.pointer (some ⟨g_analogy_beginning, 0, none⟩))]⟩ (.agg [.val, .val]) blks k) L ρ c m A := .loadGl [.v fF1, .v fF2] [fF1, fF2] Tryd.underlying83 (by kernel_rfl) (by kernel_rfl) (fun g j v hj => by
  have h := hV g
  match j, hj with
  | 0, hj => cases hj; exact h.2.1
  | 1, hj => cases hj; exact h.2.2
  | j + 2, hj => simp at hj) rfl (vals_fresh _ _ _ _) hk
theorem c_oneE (A B C : WD) (ha : Wok A.w) (hb : Wok B.w) (hc : Wok C.w) (oa : A.ok) (ob : B.ok) (oc : C.ok) : FnM Tryd.prog n_analogy_one [.agg #[fE1, fE2], A.v, B.v, C.v] (fun R => WordAt R A.p A.w ∧ WordAt R B.p B.w ∧ WordAt R C.p C.w) fun v mq _ => Res3 46 mq v (oneW A.w B.w C.w (solveW A.w B.w C.w)) := by
  refine FnM.of S_analogy_one mx [.v fE1, .v fE2, .p A.p, .i A.w.length, .i A.cap, .p B.p, .i B.w.length, .i B.cap, .p C.p, .i C.w.length, .i C.cap] rfl rfl fun c hp => .alloc fun b0 => .alloc fun b1 => ?_
  refine .callV (c_check0 (some ⟨b1, 0, none⟩) 3 [A, B, C] (by simp [ha, hb, hc]) (by simp)) (fun g => ⟨g.cells (j := 1) rfl rfl rfl, ?_⟩) (.env (by (try simp only [liE, lO, lU, snd, aN]); rfl) (.ite (fun h1 => .ret rfl ?_) (fun h1 => ?_)))
  · simp only [List.mem_cons, List.not_mem_nil, or_false]
    rintro x (rfl | rfl | rfl)
    · exact hp.1.mono g.R
    · exact hp.2.1.mono g.R
    · exact hp.2.2.mono g.R
  · ((try simp only [evE, liE, lO, lU, snd] at h1); (try simp only [cmE] at h1))
    replace h1 : checkL [A.w, B.w, C.w] ≠ 0 := h1
    have : ∀ o, oneW A.w B.w C.w o = ([], false, checkL [A.w, B.w, C.w]) := fun o => by unfold oneW; rw [if_pos h1]
    rw [this]; exact ⟨none, 0, rfl, .of (Row.nil _ _ _)⟩
  ((try simp only [evE, liE, lO, lU, snd] at h1); (try simp only [cmE] at h1))
  replace h1 : checkL [A.w, B.w, C.w] = 0 := h1
  rw [show checkL (List.map (fun x : WD => x.w) [A, B, C]) = 0 from h1]
  obtain ⟨la, lb, lc⟩ := checkL_three h1
  have hs : ∀ o, oneW A.w B.w C.w o = if (o.getD []).length > 32 then ([], false, 11) else (o.getD [], o.isSome, 0) := fun o => by unfold oneW; rw [if_neg (by simp [h1])]
  rw [hs]
  refine .callM (c_chgE A B C oa ob oc (by omega) (by omega) (by omega)) rfl rfl (fun g => ⟨hp.1.mono g.R, hp.2.1.mono g.R, hp.2.2.mono g.R⟩) ?_
  rintro v mq hf ⟨q, cq, rfl, hr⟩
  replace hr := hr.joinR (m := Mem.emp) fun b hb => (hf b hb).1
  generalize solveW A.w B.w C.w = o at *
  refine ⟨[.p q, .i ((o.getD []).length : Nat), .i (cq : Nat), .b o.isSome], uOk_of rfl, (opt_fresh _ _ _ _ _ _).symm, .env (by (try simp only [liE, lO, lU, snd, aN]); rfl) (.chk (by ((try simp only [evE, liE, lO, lU, snd]); (try simp only [cmE])); omega) (.ite (fun h2 => .ret rfl ?_) (fun h2 => .ret rfl ?_)))⟩ <;> ((try simp only [evE, liE, lO, lU, snd] at h2); (try simp only [cmE] at h2))
  · rw [if_pos (by omega)]; exact ⟨none, 0, rfl, .of (Row.nil _ _ _)⟩
  · rw [if_neg (by omega)]; exact ⟨q, cq, rfl, hr⟩
theorem c_Solve (A B C : WD) (ha : Wok A.w) (hb : Wok B.w) (hc : Wok C.w) (oa : A.ok) (ob : B.ok) (oc : C.ok) : FnM Tryd.prog n_analogy_Solve [A.v, B.v, C.v] (fun R => WordAt R A.p A.w ∧ WordAt R B.p B.w ∧ WordAt R C.p C.w ∧ VarsOk R) fun v mq _ => Res3 46 mq v (oneW A.w B.w C.w (solveW A.w B.w C.w)) := by
  refine FnM.of S_analogy_Solve mx [.p A.p, .i A.w.length, .i A.cap, .p B.p, .i B.w.length, .i B.cap, .p C.p, .i C.w.length, .i C.cap] rfl rfl fun c hp => ?_
  refine .loadE (fun g => hp.2.2.2.mono g.R) (.env (by (try simp only [liE, lO, lU, snd, aN]); rfl) (.callM (c_oneE A B C ha hb hc oa ob oc) rfl rfl (fun g => ⟨hp.1.mono g.R, hp.2.1.mono g.R, hp.2.2.1.mono g.R⟩) ?_))
  rintro v mq hf ⟨q, cq, rfl, hr⟩
  generalize oneW A.w B.w C.w (solveW A.w B.w C.w) = r at *
  exact ⟨[.p q, .i (r.1.length : Nat), .i (cq : Nat), .b r.2.1, .i r.2.2], uOk_of rfl, (res3_fresh _ _ _ _ _ _ _).symm, .env (by (try simp only [liE, lO, lU, snd, aN]); rfl) (.ret rfl ⟨q, cq, rfl, hr.joinR fun b hb => (hf b hb).1⟩)⟩
theorem c_oneF (A B C : WD) (ha : Wok A.w) (hb : Wok B.w) (hc : Wok C.w) (oa : A.ok) (ob : B.ok) (oc : C.ok) : FnM Tryd.prog n_analogy_one [.agg #[fF1, fF2], A.v, B.v, C.v] (fun R => WordAt R A.p A.w ∧ WordAt R B.p B.w ∧ WordAt R C.p C.w) fun v mq _ => Res3 46 mq v (oneW A.w B.w C.w (frontW A.w B.w C.w)) := by
  refine FnM.of S_analogy_one mx [.v fF1, .v fF2, .p A.p, .i A.w.length, .i A.cap, .p B.p, .i B.w.length, .i B.cap, .p C.p, .i C.w.length, .i C.cap] rfl rfl fun c hp => .alloc fun b0 => .alloc fun b1 => ?_
  refine .callV (c_check0 (some ⟨b1, 0, none⟩) 3 [A, B, C] (by simp [ha, hb, hc]) (by simp)) (fun g => ⟨g.cells (j := 1) rfl rfl rfl, ?_⟩) (.env (by (try simp only [liE, lO, lU, snd, aN]); rfl) (.ite (fun h1 => .ret rfl ?_) (fun h1 => ?_)))
  · simp only [List.mem_cons, List.not_mem_nil, or_false]
    rintro x (rfl | rfl | rfl)
    · exact hp.1.mono g.R
    · exact hp.2.1.mono g.R
    · exact hp.2.2.mono g.R
  · ((try simp only [evE, liE, lO, lU, snd] at h1); (try simp only [cmE] at h1))
    replace h1 : checkL [A.w, B.w, C.w] ≠ 0 := h1
    have : ∀ o, oneW A.w B.w C.w o = ([], false, checkL [A.w, B.w, C.w]) := fun o => by unfold oneW; rw [if_pos h1]
    rw [this]; exact ⟨none, 0, rfl, .of (Row.nil _ _ _)⟩
  ((try simp only [evE, liE, lO, lU, snd] at h1); (try simp only [cmE] at h1))
  replace h1 : checkL [A.w, B.w, C.w] = 0 := h1
  rw [show checkL (List.map (fun x : WD => x.w) [A, B, C]) = 0 from h1]
  obtain ⟨la, lb, lc⟩ := checkL_three h1
  have hs : ∀ o, oneW A.w B.w C.w o = if (o.getD []).length > 32 then ([], false, 11) else (o.getD [], o.isSome, 0) := fun o => by unfold oneW; rw [if_neg (by simp [h1])]
  rw [hs]
  refine .callM (c_chgF A B C oa ob oc (by omega) (by omega) (by omega)) rfl rfl (fun g => ⟨hp.1.mono g.R, hp.2.1.mono g.R, hp.2.2.mono g.R⟩) ?_
  rintro v mq hf ⟨q, cq, rfl, hr⟩
  replace hr := hr.joinR (m := Mem.emp) fun b hb => (hf b hb).1
  generalize frontW A.w B.w C.w = o at *
  refine ⟨[.p q, .i ((o.getD []).length : Nat), .i (cq : Nat), .b o.isSome], uOk_of rfl, (opt_fresh _ _ _ _ _ _).symm, .env (by (try simp only [liE, lO, lU, snd, aN]); rfl) (.chk (by ((try simp only [evE, liE, lO, lU, snd]); (try simp only [cmE])); omega) (.ite (fun h2 => .ret rfl ?_) (fun h2 => .ret rfl ?_)))⟩ <;> ((try simp only [evE, liE, lO, lU, snd] at h2); (try simp only [cmE] at h2))
  · rw [if_pos (by omega)]; exact ⟨none, 0, rfl, .of (Row.nil _ _ _)⟩
  · rw [if_neg (by omega)]; exact ⟨q, cq, rfl, hr⟩
theorem c_Front (A B C : WD) (ha : Wok A.w) (hb : Wok B.w) (hc : Wok C.w) (oa : A.ok) (ob : B.ok) (oc : C.ok) : FnM Tryd.prog n_analogy_Front [A.v, B.v, C.v] (fun R => WordAt R A.p A.w ∧ WordAt R B.p B.w ∧ WordAt R C.p C.w ∧ VarsOk R) fun v mq _ => Res3 46 mq v (oneW A.w B.w C.w (frontW A.w B.w C.w)) := by
  refine FnM.of S_analogy_Front mx [.p A.p, .i A.w.length, .i A.cap, .p B.p, .i B.w.length, .i B.cap, .p C.p, .i C.w.length, .i C.cap] rfl rfl fun c hp => ?_
  refine .loadF (fun g => hp.2.2.2.mono g.R) (.env (by (try simp only [liE, lO, lU, snd, aN]); rfl) (.callM (c_oneF A B C ha hb hc oa ob oc) rfl rfl (fun g => ⟨hp.1.mono g.R, hp.2.1.mono g.R, hp.2.2.1.mono g.R⟩) ?_))
  rintro v mq hf ⟨q, cq, rfl, hr⟩
  generalize oneW A.w B.w C.w (frontW A.w B.w C.w) = r at *
  exact ⟨[.p q, .i (r.1.length : Nat), .i (cq : Nat), .b r.2.1, .i r.2.2], uOk_of rfl, (res3_fresh _ _ _ _ _ _ _).symm, .env (by (try simp only [liE, lO, lU, snd, aN]); rfl) (.ret rfl ⟨q, cq, rfl, hr.joinR fun b hb => (hf b hb).1⟩)⟩
end Go.Proofs.YtpbbnmjkbfbelabDoor


/- Chapter 30: the reference's changes, Solve and Front; its checks. -/
namespace Go.Proofs.YtpbbnmjkbfbelabDoor
open Go Go.Sy Go.RowKit
end Go.Proofs.YtpbbnmjkbfbelabDoor


/- Chapter 30: the results of a model, one by one; what a model supports. -/
namespace Go.Sy
open Go Go.RowKit
noncomputable def Mv.all (h : HW) : Mv where
  c b o := by
    classical
    exact if q : ∃ v, ∀ w, h.H w → w.cell? ⟨b, o, none⟩ = some v then some (Classical.choose q) else none
  m b := by
    classical
    exact if q : ∃ es, ∀ w, h.H w → (Mv.of w).m b = some es then some (Classical.choose q) else none
theorem Mv.all_c (h : HW) (b o : Nat) [Decidable (∃ v, ∀ w, h.H w → w.cell? ⟨b, o, none⟩ = some v)] : (Mv.all h).c b o = if q : ∃ v, ∀ w, h.H w → w.cell? ⟨b, o, none⟩ = some v then some (Classical.choose q) else none := by
  unfold Mv.all; simp only; congr
theorem Mv.all_m (h : HW) (b : Nat) [Decidable (∃ es, ∀ w, h.H w → (Mv.of w).m b = some es)] : (Mv.all h).m b = if q : ∃ es, ∀ w, h.H w → (Mv.of w).m b = some es then some (Classical.choose q) else none := by
  unfold Mv.all; simp only; congr
open Classical in
theorem Mv.all_le {h : HW} {w : World} (hw : h.H w) : (Mv.all h).le (Mv.of w) := ⟨fun b o v hv => by
  rw [Mv.all_c] at hv
  split at hv
  · rename_i q
    cases hv
    exact Classical.choose_spec q w hw
  · exact absurd hv (by simp), fun b es hv => by
  rw [Mv.all_m] at hv
  split at hv
  · rename_i q
    cases hv
    exact Classical.choose_spec q w hw
  · exact absurd hv (by simp)⟩
open Classical in
theorem Mv.all_of {h : HW} (hw : ∃ w, h.H w) {b o : Nat} {v : Value} (hv : ∀ w, h.H w → w.cell? ⟨b, o, none⟩ = some v) : Mv.all h b o = some v := by
  obtain ⟨w, hw⟩ := hw
  have q : ∃ v, ∀ w, h.H w → w.cell? ⟨b, o, none⟩ = some v := ⟨v, hv⟩
  rw [Mv.all_c, dif_pos q]
  have h1 := Classical.choose_spec q w hw
  rw [hv w hw] at h1
  exact h1.symm
open Classical in
theorem Mv.all_ofm {h : HW} (hw : ∃ w, h.H w) {b : Nat} {es : Array MapEntry} (hv : ∀ w, h.H w → (Mv.of w).m b = some es) : (Mv.all h).m b = some es := by
  obtain ⟨w, hw⟩ := hw
  have q : ∃ es, ∀ w, h.H w → (Mv.of w).m b = some es := ⟨es, hv⟩
  rw [Mv.all_m, dif_pos q]
  have h1 := Classical.choose_spec q w hw
  rw [hv w hw] at h1
  exact h1.symm
theorem Mv.le_all {h : HW} (hw : ∃ w, h.H w) {S : Mv} (hS : ∀ w, h.H w → S.le (Mv.of w)) : S.le (Mv.all h) := ⟨fun _ _ _ hv => Mv.all_of hw fun w hw' => (hS w hw').c _ _ _ hv, fun _ _ hv => Mv.all_ofm hw fun w hw' => (hS w hw').m _ _ hv⟩
theorem cells_all {h : HW} (hw : ∃ w, h.H w) {p : Option Addr} {xs : List Value} (hc : ∀ w, h.H w → Cells (Mv.of w) p xs) : Cells (Mv.all h) p xs := fun i x hx => by
  obtain ⟨w, hw'⟩ := hw
  obtain ⟨b, o, hp, _⟩ := hc w hw' i x hx
  refine ⟨b, o, hp, Mv.all_of ⟨w, hw'⟩ fun w2 h2 => ?_⟩
  obtain ⟨b', o', hp', h3⟩ := hc w2 h2 i x hx
  rw [hp] at hp'; cases hp'
  exact h3
theorem RowW.cells_of {m : Mem} {et : TypeId} {q : Option Addr} {cap : Nat} {x : List Snd} (h : RowW m et q cap x) {w : World} (hw : (HW.mem m).H w) : Cells (Mv.of w) q (wcells x) := by
  by_cases hx : x = []
  · rw [hx]; exact fun i y hy => by simp [wcells] at hy
  · refine (h.row hx).cells fun g cur hg o => ?_
    have := hw g _ hg
    simp only [Mv.of, World.cell?, this]
    rfl
def resW (a b c : List Snd) : List (List Snd) :=
  match solveW a b c, frontW a b c with
  | some x, some y => if x = y then [x] else [x, y]
  | some x, none => [x]
  | none, some y => [y]
  | none, none => []
def supW (a b c d : List Snd) : Bool := decide (d ∈ resW a b c)
def ResX (l : List (List Snd)) (k : Nat) (ux : List U) (mx : Mem) : Prop := ∃ q cq w, l[k]? = some w ∧ ux = [.p q, .i (w.length : Nat), .i (cq : Nat)] ∧ RowW mx 46 q cq w
def box2 (b0 b1 : Nat) (A B C : WD) : Mem := (Mem.emp.upd b1 (.cells #[C.v] 23 (0, 0))).upd b0 (.cells #[A.v, B.v] 28 (0, 0))
theorem applyE_len {x y c w : List Snd} (h : applyE x y c = some w) : w.length ≤ c.length + y.length := by
  unfold applyE at h
  split at h
  · cases h; simp only [List.length_append, List.length_take, List.length_drop]; omega
  · cases h
theorem applyF_len {x y c w : List Snd} (h : applyF x y c = some w) : w.length ≤ c.length + y.length := by
  unfold applyF at h
  split at h
  · cases h; simp only [List.length_append, List.length_take, List.length_drop]; omega
  · cases h
theorem solveW_len {a b c w : List Snd} (h : solveW a b c = some w) : w.length ≤ c.length + b.length := by
  have := applyE_len h
  have := List.length_drop (l := b) (i := cpl a b)
  omega
theorem frontW_len {a b c w : List Snd} (h : frontW a b c = some w) : w.length ≤ c.length + b.length := by
  have := applyF_len h
  have := List.length_take_le' (l := b) (i := b.length - csl a b)
  omega
theorem resW_len {a b c w : List Snd} (h : w ∈ resW a b c) : w.length ≤ c.length + b.length := by
  unfold resW at h
  split at h
  · rename_i x y hx hy
    split at h
    · simp at h; subst h; exact solveW_len hx
    · simp at h
      rcases h with rfl | rfl
      · exact solveW_len hx
      · exact frontW_len hy
  · rename_i x hx hy; simp at h; subst h; exact solveW_len hx
  · rename_i y hx hy; simp at h; subst h; exact frontW_len hy
  · simp at h
end Go.Sy
namespace Go.Proofs.YtpbbnmjkbfbelabDoor
open Go Go.Sy Go.RowKit
theorem c_results (A B C : WD) : FnM Tryd.prog n_analogy_results [.agg #[A.v, B.v], C.v] (fun _ => True) fun v mq _ => ∃ b0 b1, v = .func (.func n_analogy_results_1) #[] #[.pointer (some ⟨b0, 0, none⟩), .pointer (some ⟨b1, 0, none⟩)] ∧ mq = box2 b0 b1 A B C ∧ b0 ≠ b1 :=
  FnM.of S_analogy_results mx [.p A.p, .i A.w.length, .i A.cap, .p B.p, .i B.w.length, .i B.cap, .p C.p, .i C.w.length, .i C.cap] rfl rfl fun c _ => .alloc fun b0 => .alloc fun b1 => .retL rfl fun g => ⟨b0, b1, rfl, rfl, by
    have := g.nd
    simp at this
    omega⟩
def ResAt (A B C : WD) (S : Mv) : Prop := WordAt S A.p A.w ∧ WordAt S B.p B.w ∧ WordAt S C.p C.w ∧ VarsOk S
theorem ResAt.mono {A B C : WD} {S S' : Mv} (h : ResAt A B C S) (hle : S.le S') : ResAt A B C S' := ⟨h.1.mono hle, h.2.1.mono hle, h.2.2.1.mono hle, h.2.2.2.mono hle⟩
set_option maxHeartbeats 1000000 in
theorem it_results (A B C : WD) (oa : A.ok) (ob : B.ok) (oc : C.ok) (la : A.w.length < 2 ^ 38) (lb : B.w.length < 2 ^ 38) (lc : C.w.length < 2 ^ 38) (b0 b1 : Nat) (h01 : b0 ≠ b1) (S : Mv) (hS : ResAt A B C S) :
    IterX Tryd.prog n_analogy_results_1 #[.pointer (some ⟨b0, 0, none⟩), .pointer (some ⟨b1, 0, none⟩)] (fun w => S.le (Mv.of w)) (HW.mem (box2 b0 b1 A B C)) (resW A.w B.w C.w).length fun k x hx => ∃ ux mx, ResX (resW A.w B.w C.w) k ux mx ∧ hx = HW.mem mx ∧ x = SV.dens [] ux (Sh.freshs [.sl] 0).1 := by
  refine IterX.of S_analogy_results_1 mx [.p (some ⟨b0, 0, none⟩), .p (some ⟨b1, 0, none⟩)] (fun yv => rfl) (fun yv h => by simp [Sh.eats, Sh.eat, eatV, eatP, h]) ?_
  intro yv J E hyv hy hpre h hw hJ hdj
  have e0 : box2 b0 b1 A B C b0 = some (.cells [A.v, B.v].toArray 28 (0, 0)) := Mem.upd_same ..
  have e1 : box2 b0 b1 A B C b1 = some (.cells [C.v].toArray 23 (0, 0)) := by unfold box2; rw [Mem.upd_other _ _ (Ne.symm h01), Mem.upd_same]
  generalize box2 b0 b1 A B C = m0 at *
  have hxs : ∀ (q : Option Addr) (n cq : Nat), SV.dens [] [.p q, .i n, .i cq] (Sh.freshs [.sl] 0).1 = [slv q n cq] := fun q n cq => by
    have := slv_fresh [] [] q n cq
    simp only [Sh.freshs, SV.dens]
    rw [← this]; rfl
  have hX : ∀ {k : Nat} {q : Option Addr} {cq : Nat} {w : List Snd} {mx : Mem}, (resW A.w B.w C.w)[k]? = some w → RowW mx 46 q cq w → ∃ ux mx', ResX (resW A.w B.w C.w) k ux mx' ∧ HW.mem mx = HW.mem mx' ∧ [slv q w.length cq] = SV.dens [] ux (Sh.freshs [.sl] 0).1 := fun {k q cq w mx} h1 h2 => ⟨_, mx, ⟨q, cq, w, h1, rfl, h2⟩, rfl, (hxs q w.length cq).symm⟩
  -- with all that is known around
  have hfull : ∀ {hT : HW} (hw : ∃ w, hT.H w) {k : Nat}, J k hT → ResAt A B C (Mv.all hT) := fun hw k hJ => hS.mono (Mv.le_all hw fun w hT => hpre k _ w hJ hT)
  refine .into (S := Mv.all h) hw (fun w hT => Mv.all_le hT) ?_
  have hR := hfull hw hJ
  refine .loadE (fun g => hR.2.2.2.mono g.R) (.env (by (try simp only [liE, lO, lU, snd, aN]); rfl) (.chk rfl (.loadS [A.v, B.v] 0 A.p A.w.length A.cap rfl rfl (fun g => cells_of_mem g e0) (.env (by (try simp only [liE, lO, lU, snd, aN]); rfl) (.chk rfl (.loadS [A.v, B.v] 1 B.p B.w.length B.cap rfl rfl (fun g => cells_of_mem g e0) (.env (by (try simp only [liE, lO, lU, snd, aN]); rfl) (.loadS [C.v] 0 C.p C.w.length C.cap rfl rfl (fun g => cells_of_mem g e1) (.env (by (try simp only [liE, lO, lU, snd, aN]); rfl) (.callM (c_chgE A B C oa ob oc la lb lc) rfl rfl (fun g => ⟨hR.1.mono g.R, hR.2.1.mono g.R, hR.2.2.1.mono g.R⟩) ?_))))))))))
  rintro v mq hf ⟨q, cq, rfl, hr⟩
  cases hs : solveW A.w B.w C.w with
  | none =>
    rw [hs] at hr
    replace e0 := (Mem.join_old (mq := mq) (by rw [e0]; simp)).trans e0
    replace e1 := (Mem.join_old (mq := mq) (by rw [e1]; simp)).trans e1
    refine ⟨[.p q, .i 0, .i (cq : Nat), .b false], uOk_of rfl, (opt_fresh _ _ _ _ _ _).symm, .env (by (try simp only [liE, lO, lU, snd, aN]); rfl) (.no rfl ?_)⟩
    generalize m0.join mq = m1 at *
    clear hf hr
    refine .loadF (fun g => hR.2.2.2.mono g.R) (.env (by (try simp only [liE, lO, lU, snd, aN]); rfl) (.chk rfl (.loadS [A.v, B.v] 0 A.p A.w.length A.cap rfl rfl (fun g => cells_of_mem g e0) (.env (by (try simp only [liE, lO, lU, snd, aN]); rfl) (.chk rfl (.loadS [A.v, B.v] 1 B.p B.w.length B.cap rfl rfl (fun g => cells_of_mem g e0) (.env (by (try simp only [liE, lO, lU, snd, aN]); rfl) (.loadS [C.v] 0 C.p C.w.length C.cap rfl rfl (fun g => cells_of_mem g e1) (.env (by (try simp only [liE, lO, lU, snd, aN]); rfl) (.callM (c_chgF A B C oa ob oc la lb lc) rfl rfl (fun g => ⟨hR.1.mono g.R, hR.2.1.mono g.R, hR.2.2.1.mono g.R⟩) ?_))))))))))
    rintro v mq2 hf2 ⟨q2, cq2, rfl, hr2⟩
    cases hs2 : frontW A.w B.w C.w with
    | none =>
      have hl : (resW A.w B.w C.w).length = 0 := by unfold resW; rw [hs, hs2]; rfl
      rw [hl]
      rw [hs2] at hr2
      exact ⟨[.p q2, .i 0, .i (cq2 : Nat), .b false], uOk_of rfl, (opt_fresh _ _ _ _ _ _).symm, .env (by (try simp only [liE, lO, lU, snd, aN]); rfl) (.no rfl (.stop (.inl hJ)))⟩
    | some y =>
      have hl : resW A.w B.w C.w = [y] := by unfold resW; rw [hs, hs2]
      rw [hs2] at hr2
      refine ⟨[.p q2, .i (y.length : Nat), .i (cq2 : Nat), .b true], uOk_of rfl, (opt_fresh _ _ _ _ _ _).symm, .env (by (try simp only [liE, lO, lU, snd, aN]); rfl) (.yes rfl (.yieldX hy hJ (hX (k := 0) (by rw [hl]; rfl) hr2) rfl (fun b hb => ?_) (fun hT' hw' hJ' _ => .stop (.inl ?_)) (fun hT' hE => .stop (.inr hE))))⟩
      · cases hq : mq2 b with
        | none => rfl
        | some o => exact absurd (hf2 b (by rw [hq]; simp)).1 hb
      · rw [hl]; exact hJ'
  | some x =>
    rw [hs] at hr
    refine ⟨[.p q, .i (x.length : Nat), .i (cq : Nat), .b true], uOk_of rfl, (opt_fresh _ _ _ _ _ _).symm, .env (by (try simp only [liE, lO, lU, snd, aN]); rfl) (.yes rfl ?_)⟩
    have h0 : (resW A.w B.w C.w)[0]? = some x := by
      unfold resW
      rw [hs]
      cases frontW A.w B.w C.w with
      | none => rfl
      | some y => simp only; split <;> rfl
    have hxl : x.length < 2 ^ 40 := by have := solveW_len hs; omega
    refine .yieldX hy hJ (hX (k := 0) h0 hr) rfl (fun b hb => ?_) (fun hT' hw' hJ' hret => ?_) (fun hT' hE => .env (by (try simp only [liE, lO, lU, snd, aN]); rfl) (.yes rfl (.stop (.inr hE))))
    · cases hq : mq b with
      | none => rfl
      | some o => exact absurd (hf b (by rw [hq]; simp)).1 hb
    have hR2 := hfull hw' hJ'
    have hxr : WordAt (Mv.all hT') q x := cells_all hw' fun w hT => hr.cells_of (hret w hT)
    refine .env (by (try simp only [liE, lO, lU, snd, aN]); rfl) (.no rfl (.into (S := Mv.all hT') hw' (fun w hT => Mv.all_le hT) ?_))
    refine .loadF (fun g => hR2.2.2.2.mono g.R) (.env (by (try simp only [liE, lO, lU, snd, aN]); rfl) (.chk rfl (.loadS [A.v, B.v] 0 A.p A.w.length A.cap rfl rfl (fun g => cells_of_mem g e0) (.env (by (try simp only [liE, lO, lU, snd, aN]); rfl) (.chk rfl (.loadS [A.v, B.v] 1 B.p B.w.length B.cap rfl rfl (fun g => cells_of_mem g e0) (.env (by (try simp only [liE, lO, lU, snd, aN]); rfl) (.loadS [C.v] 0 C.p C.w.length C.cap rfl rfl (fun g => cells_of_mem g e1) (.env (by (try simp only [liE, lO, lU, snd, aN]); rfl) (.callM (c_chgF A B C oa ob oc la lb lc) rfl rfl (fun g => ⟨hR2.1.mono g.R, hR2.2.1.mono g.R, hR2.2.2.1.mono g.R⟩) ?_))))))))))
    rintro v mq2 hf2 ⟨q2, cq2, rfl, hr2⟩
    cases hs2 : frontW A.w B.w C.w with
    | none =>
      have hl : (resW A.w B.w C.w).length = 1 := by unfold resW; rw [hs, hs2]; rfl
      rw [hl]
      rw [hs2] at hr2
      exact ⟨[.p q2, .i 0, .i (cq2 : Nat), .b false], uOk_of rfl, (opt_fresh _ _ _ _ _ _).symm, .env (by (try simp only [liE, lO, lU, snd, aN]); rfl) (.no rfl (.stop (.inl hJ')))⟩
    | some y =>
      rw [hs2] at hr2
      have hr3 := hr2.joinR (m := m0) fun b hb => (hf2 b hb).1
      refine ⟨[.p q2, .i (y.length : Nat), .i (cq2 : Nat), .b true], uOk_of rfl, (opt_fresh _ _ _ _ _ _).symm, .env (by (try simp only [liE, lO, lU, snd, aN]); rfl) (.yes rfl (.callV (c_wordEqual q q2 cq cq2 x y (by omega)) (fun g => ⟨hxr.mono g.R, hr3.reads g⟩) (.env (by (try simp only [liE, lO, lU, snd, aN]); rfl) ?_)))⟩
      by_cases he : x = y
      · have hl : (resW A.w B.w C.w).length = 1 := by unfold resW; rw [hs, hs2]; simp [he]
        rw [hl]
        exact .no (by ((try simp only [evE, liE, lO, lU, snd]); (try simp only [cmE])); simp [he]) (.stop (.inl hJ'))
      · have hl : resW A.w B.w C.w = [x, y] := by unfold resW; rw [hs, hs2]; simp [he]
        refine .yes (by ((try simp only [evE, liE, lO, lU, snd]); (try simp only [cmE])); simp [he]) (.yieldX hy hJ' (hX (k := 1) (by rw [hl]; rfl) hr2) rfl (fun b hb => ?_) (fun hT' hw' hJ' _ => .stop (.inl ?_)) (fun hT' hE => .stop (.inr hE)))
        · cases hq : mq2 b with
          | none => rfl
          | some o => exact absurd (hf2 b (by rw [hq]; simp)).1 hb
        · rw [hl]; exact hJ'
end Go.Proofs.YtpbbnmjkbfbelabDoor


/- Chapter 30: what a model supports; the reference's Solve, Front, supports and check. -/
namespace Go.Sy
open Go Go.RowKit
theorem RowW.join_sub {m mx m' : Mem} {q : Option Addr} {cq : Nat} {w : List Snd} (h : RowW mx 46 q cq w) : ∀ b o, mx b = some o → (∀ b, m b ≠ none → mx b = none) → m.join mx b = some o := fun b o hb hd => by
  unfold Mem.join
  cases hm : m b with
  | none => exact hb
  | some x => have := hd b (by rw [hm]; simp); rw [this] at hb; cases hb
end Go.Sy
namespace Go.Proofs.YtpbbnmjkbfbelabDoor
open Go Go.Sy Go.RowKit
theorem c_supports (A B C D : WD) (oa : A.ok) (ob : B.ok) (oc : C.ok) (la : A.w.length < 2 ^ 38) (lb : B.w.length < 2 ^ 38) (lc : C.w.length < 2 ^ 38) (ld : D.w.length < 2 ^ 38) : RetP Tryd.prog n_analogy_supports [.agg #[A.v, B.v], C.v, D.v] (fun R => WordAt R A.p A.w ∧ WordAt R B.p B.w ∧ WordAt R C.p C.w ∧ WordAt R D.p D.w ∧ VarsOk R) (.bool (supW A.w B.w C.w D.w)) := by
  refine Fn.of S_analogy_supports mx [.p A.p, .i A.w.length, .i A.cap, .p B.p, .i B.w.length, .i B.cap, .p C.p, .i C.w.length, .i C.cap, .p D.p, .i D.w.length, .i D.cap] rfl rfl fun c hp => .alloc fun a0 => .alloc fun a1 => .alloc fun a2 => .callM (c_results A B C) rfl rfl (fun _ => trivial) ?_
  rintro v mq hf ⟨b0, b1, rfl, rfl, h01⟩
  refine ⟨[.v (.func (.func n_analogy_results_1) #[] #[.pointer (some ⟨b0, 0, none⟩), .pointer (some ⟨b1, 0, none⟩)])], uOk_of rfl, rfl, .env (by (try simp only [liE, lO, lU, snd, aN]); rfl) ?_⟩
  refine .rangeX n_analogy_results_1 #[.pointer (some ⟨b0, 0, none⟩), .pointer (some ⟨b1, 0, none⟩)] _ (ResX (resW A.w B.w C.w)) (fun w => c.R.le (Mv.of w)) (box2 b0 b1 A B C) Mem.emp (fun k us mm => us = [.b false] ∧ D.w ∉ (resW A.w B.w C.w).take k) (fun n us mm => n = 1 ∧ us = [.b true] ∧ D.w ∈ resW A.w B.w C.w)
    rfl (by kernel_rfl) rfl (fun b hb => absurd rfl hb) (fun k ux m1 hx => ?_) (it_results A B C oa ob oc la lb lc b0 b1 h01 c.R ⟨hp.1, hp.2.1, hp.2.2.1, hp.2.2.2.2⟩) ⟨rfl, by simp⟩ (fun k us m' w _ hw => ⟨fun b o v hv => c.ok w b o v hw.hold.1 hv, fun b es hv => c.okm w b es hw.hold.1 hv⟩) ?_ ?_ ?_
  · obtain ⟨q, cq, w, _, rfl, _⟩ := hx
    exact usOk_of rfl
  · rintro k us ux m' m1 _ ⟨q, cq, w, hw, rfl, hr⟩ ⟨rfl, hn⟩ hdj
    have hr1 := hr.joinR (m := m') fun b hb => by
      cases h : m' b with
      | none => rfl
      | some o => exact absurd (hdj b (by rw [h]; simp)) hb
    have hk : k < (resW A.w B.w C.w).length := by
      rcases Nat.lt_or_ge k (resW A.w B.w C.w).length with h | h
      · exact h
      · rw [List.getElem?_eq_none h] at hw; cases hw
    have hwk : (resW A.w B.w C.w)[k] = w := by rw [List.getElem?_eq_getElem hk] at hw; exact Option.some.inj hw
    have hmem : w ∈ resW A.w B.w C.w := hwk ▸ List.getElem_mem hk
    have hlw := resW_len hmem
    have hsub : ∀ b o, m1 b = some o → m'.join m1 b = some o := fun b o hb => hr.join_sub (m' := m') b o hb hdj
    refine .env (by (try simp only [liE, lO, lU, snd, aN]); rfl) (.callV (c_wordEqual q D.p cq D.cap w D.w (by omega)) (fun g => ⟨hr1.reads g, hp.2.2.2.1.mono g.R⟩) ?_)
    by_cases he : w = D.w
    · exact .yes (by ((try simp only [evE, liE, lO, lU, snd]); (try simp only [cmE])); simp [he]) (.leave ⟨hsub, .inr ⟨by decide, rfl, rfl, he ▸ hmem⟩⟩)
    · refine .no (by ((try simp only [evE, liE, lO, lU, snd]); (try simp only [cmE])); simp [he]) (.leave ⟨hsub, .inl ⟨rfl, rfl, ?_⟩⟩)
      rw [List.take_succ_eq_append_getElem hk, List.mem_append, hwk]
      simp only [List.mem_cons, List.not_mem_nil, or_false, not_or]
      exact ⟨hn, fun h => he h.symm⟩
  · rintro us m' _ ⟨rfl, hn⟩
    rw [List.take_of_length_le (Nat.le_refl _)] at hn
    have : supW A.w B.w C.w D.w = false := by unfold supW; simpa using hn
    rw [this]
    exact .no rfl (.ret rfl rfl)
  · rintro n us m' _ _ ⟨rfl, rfl, hm⟩
    have : supW A.w B.w C.w D.w = true := by unfold supW; simpa using hm
    rw [this]
    exact .yes rfl (.ret rfl rfl)
end Go.Proofs.YtpbbnmjkbfbelabDoor


/- Chapter 30: Holds, Explain, Count, of both; the reference's Solve and Front. -/
namespace Go.Sy
open Go Go.RowKit
theorem checkL_all {l : List (List Snd)} (h : checkL l = 0) : ∀ w ∈ l, w.length ≤ 32 := by
  induction l with
  | nil => simp
  | cons w l ih =>
    unfold checkL at h
    split at h
    · rename_i h2; exact absurd h h2
    · rename_i h2
      simp only [ne_eq, Decidable.not_not] at h2
      intro x hx
      rcases List.mem_cons.1 hx with rfl | hx
      · exact (checkW_zero h2).1
      · exact ih h x hx
theorem chkM_all {ms : List MD} {l : List (List Snd)} (h : chkM ms l = 0) : ms.length ≤ 256 ∧ (∀ x ∈ ms, x.a.w.length ≤ 32 ∧ x.b.w.length ≤ 32) ∧ ∀ w ∈ l, w.length ≤ 32 := by
  unfold chkM at h
  split at h
  · cases h
  · have := checkL_all h
    refine ⟨by omega, fun x hx => ⟨this _ ?_, this _ ?_⟩, fun w hw => this _ (List.mem_append_right _ hw)⟩ <;> refine List.mem_append_left _ (List.mem_flatMap.2 ⟨x, hx, ?_⟩) <;> simp
def supM (c d : List Snd) (m : MD) : Bool := supW m.a.w m.b.w c d
def foundW : Option Nat → Int × Bool × Int
  | some i => ((i : Int), true, 0)
  | none => (0, false, 0)
def explW (ms : List MD) (c d : List Snd) : Int × Bool × Int := if chkM ms [c, d] ≠ 0 then (0, false, chkM ms [c, d]) else foundW (ms.findIdx? (supM c d))
def countW (ms : List MD) (c d : List Snd) : Int × Int := if chkM ms [c, d] ≠ 0 then (0, chkM ms [c, d]) else (((ms.countP (supM c d) : Nat) : Int), 0)
theorem countP_snoc {α : Type} {p : α → Bool} {l : List α} {j : Nat} (hj : j < l.length) : (l.take (j + 1)).countP p = (l.take j).countP p + if p l[j] then 1 else 0 := by
  rw [List.take_succ_eq_append_getElem hj, List.countP_append]
  by_cases h : p l[j] = true <;> simp [h]
end Go.Sy
namespace Go.Proofs.YtpbbnmjkbfbelabDoor
open Go Go.Sy Go.RowKit
end Go.Proofs.YtpbbnmjkbfbelabDoor


/- Chapter 30: Explain and Count, of both. -/
namespace Go.Proofs.YtpbbnmjkbfbelabDoor
open Go Go.Sy Go.RowKit
theorem c_index (p : Option Addr) (cp : Nat) (ms : List MD) (fv : Value) (hfv : fv.oneCell' = true) (f : MD → Bool) (pre : Mv → Prop) (hpre : ∀ R S : Mv, R.le S → pre R → pre S) (hl : ms.length < 2 ^ 62) (hf : ∀ x ∈ ms, FnV Tryd.prog fv [.agg #[x.a.v, x.b.v]] pre fun v _ _ => v = .bool (f x)) :
    RetP Tryd.prog n_slices_IndexFunc___api_Pair_api_Pair_ [slv p ms.length cp, fv] (fun R => ModelsAt R p ms ∧ pre R) (.int .i64 (match ms.findIdx? f with | some i => (i : Int) | none => -1)) := by
  refine Fn.of S_slices_IndexFunc___api_Pair_api_Pair_ mx [.p p, .i ms.length, .i cp, .v fv] (by simp [Sh.eats, Sh.eat, eatV, eatP, eatS, hfv]) rfl fun c hp => .chk (by ((try simp only [evE, liE, lO, lU, snd]); (try simp only [cmE])); omega) ?_
  refine .loop (fun n us _ => ∃ (e : Int) (j : Nat), us = [.i e, .i j] ∧ n + j = ms.length ∧ ∀ i (hi : i < ms.length), i < j → f ms[i] = false) ms.length ⟨0, 0, rfl, rfl, fun i hi h => by omega⟩ ?_
  rintro n _ m _ ⟨e, j, rfl, hn, hb⟩
  refine .env (by (try simp only [liE, lO, lU, snd, aN]); rfl) (.ite (fun h2 => ?_) (fun h2 => .ret rfl ?_)) <;> ((try simp only [evE, liE, lO, lU, snd] at h2); (try simp only [cmE] at h2))
  · have hj : j < ms.length := by omega
    refine .loadMD ms j hj (fun g => hp.1.1.mono g.R) (.env (by (try simp only [liE, lO, lU, snd, aN]); rfl) (.callvR (hf _ (List.getElem_mem hj)) (fun g => hpre _ _ g.R hp.2) (fun m' _ => .env (by (try simp only [liE, lO, lU, snd, aN]); rfl) (.ite (fun h3 => .ret rfl ?_) (fun h3 => .again rfl ⟨n - 1, by omega, e, j + 1, ?_, by omega, ?_⟩)))))
    · replace h3 : f ms[j] = true := h3
      rw [findIdx?_at hj h3 hb]; rfl
    · (simp only [evE, liE, lO, lU, snd, Sh.uss, Sh.us, atAddr, map_add0, List.append_nil]); rw [add_i64 j (by omega)]
    · replace h3 : f ms[j] = false := h3
      intro i hi hij
      rcases Nat.lt_or_ge i j with h | h
      · exact hb i hi h
      · have : i = j := by omega
        subst this; exact h3
  · rw [findIdx?_none fun i hi => hb i hi (by omega)]; rfl
def ExpAt (C D : WD) (ms : List MD) (b0 b1 : Nat) (R : Mv) : Prop := Cells R (some ⟨b0, 0, none⟩) [C.v] ∧ Cells R (some ⟨b1, 0, none⟩) [D.v] ∧ WordAt R C.p C.w ∧ WordAt R D.p D.w ∧ (∀ x ∈ ms, WordAt R x.a.p x.a.w ∧ WordAt R x.b.p x.b.w) ∧ VarsOk R
theorem c_exp1 (C D : WD) (ms : List MD) (b0 b1 : Nat) (x : MD) (hx : x ∈ ms) (oa : x.a.ok) (ob : x.b.ok) (oc : C.ok) (la : x.a.w.length < 2 ^ 38) (lb : x.b.w.length < 2 ^ 38) (lc : C.w.length < 2 ^ 38) (ld : D.w.length < 2 ^ 38) :
    FnM Tryd.prog n_analogy_Explain_1 ([.agg #[x.a.v, x.b.v]] ++ [.pointer (some ⟨b0, 0, none⟩), .pointer (some ⟨b1, 0, none⟩)]) (ExpAt C D ms b0 b1) fun v _ _ => v = .bool (supM C.w D.w x) := by
  refine Fn.of S_analogy_Explain_1 mx [.p x.a.p, .i x.a.w.length, .i x.a.cap, .p x.b.p, .i x.b.w.length, .i x.b.cap, .p (some ⟨b0, 0, none⟩), .p (some ⟨b1, 0, none⟩)] rfl rfl fun c hp => .alloc fun a0 => ?_
  obtain ⟨h0, h1, hC, hD, hm, hV⟩ := hp
  refine .loadS [C.v] 0 C.p C.w.length C.cap rfl rfl (fun g => h0.mono g.R) (.env (by (try simp only [liE, lO, lU, snd, aN]); rfl) (.loadS [D.v] 0 D.p D.w.length D.cap rfl rfl (fun g => h1.mono g.R) (.env (by (try simp only [liE, lO, lU, snd, aN]); rfl) (.callV (c_supports x.a x.b C D oa ob oc la lb lc ld) (fun g => ⟨(hm x hx).1.mono g.R, (hm x hx).2.mono g.R, hC.mono g.R, hD.mono g.R, hV.mono g.R⟩) (.ret rfl rfl)))))
theorem c_Explain (p : Option Addr) (cp : Nat) (ms : List MD) (C D : WD) (hm : ModelsOk ms) (hc : Wok C.w) (hd : Wok D.w) (oc : C.ok) (hl : ms.length < 2 ^ 62) : RetP Tryd.prog n_analogy_Explain [slv p ms.length cp, C.v, D.v] (fun R => ModelsAt R p ms ∧ WordAt R C.p C.w ∧ WordAt R D.p D.w ∧ VarsOk R) (.tuple #[.int .i64 (explW ms C.w D.w).1, .bool (explW ms C.w D.w).2.1, .int .i64 (explW ms C.w D.w).2.2]) := by
  refine Fn.of S_analogy_Explain mx [.p p, .i ms.length, .i cp, .p C.p, .i C.w.length, .i C.cap, .p D.p, .i D.w.length, .i D.cap] rfl rfl fun c hp => .alloc fun b0 => .alloc fun b1 => .alloc fun b2 => ?_
  obtain ⟨hM, hC, hD, hV⟩ := hp
  refine .callV (c_check p cp ms (some ⟨b2, 0, none⟩) 2 [C, D] hm (by simp [hc, hd]) (by simp)) (fun g => ⟨hM.mono g.R, g.cells (j := 2) rfl rfl rfl, ?_⟩) (.env (by (try simp only [liE, lO, lU, snd, aN]); rfl) (.ite (fun h1 => .ret rfl ?_) (fun h1 => ?_)))
  · simp only [List.mem_cons, List.not_mem_nil, or_false]
    rintro x (rfl | rfl)
    · exact hC.mono g.R
    · exact hD.mono g.R
  · ((try simp only [evE, liE, lO, lU, snd] at h1); (try simp only [cmE] at h1))
    replace h1 : chkM ms [C.w, D.w] ≠ 0 := h1
    have : explW ms C.w D.w = (0, false, chkM ms [C.w, D.w]) := by unfold explW; rw [if_pos h1]
    rw [this]; rfl
  ((try simp only [evE, liE, lO, lU, snd] at h1); (try simp only [cmE] at h1))
  replace h1 : chkM ms [C.w, D.w] = 0 := h1
  obtain ⟨l0, l1, l2⟩ := chkM_all h1
  simp only [List.mem_cons, List.not_mem_nil, or_false, forall_eq_or_imp, forall_eq] at l2
  have he : explW ms C.w D.w = foundW (ms.findIdx? (supM C.w D.w)) := by unfold explW; rw [if_neg (by simp [h1])]
  refine .callV (c_index p cp ms (.func (.func n_analogy_Explain_1) #[] #[.pointer (some ⟨b0, 0, none⟩), .pointer (some ⟨b1, 0, none⟩)]) rfl (supM C.w D.w) (ExpAt C D ms b0 b1) (fun R S hRS ⟨h0, h1, hC, hD, hm, hV⟩ => ⟨h0.mono hRS, h1.mono hRS, hC.mono hRS, hD.mono hRS, fun x hx => ⟨(hm x hx).1.mono hRS, (hm x hx).2.mono hRS⟩, hV.mono hRS⟩) hl fun x hx => FnV.of (by kernel_rfl) (c_exp1 C D ms b0 b1 x hx (hm x hx).2.2.1 (hm x hx).2.2.2 oc (by have := l1 x hx; omega) (by have := l1 x hx; omega) (by omega) (by omega)))
    (fun g => ⟨hM.mono g.R, g.cells (j := 0) rfl rfl rfl, g.cells (j := 1) rfl rfl rfl, hC.mono g.R, hD.mono g.R, fun x hx => ⟨(hM.2 x hx).1.mono g.R, (hM.2 x hx).2.mono g.R⟩, hV.mono g.R⟩) (.env (by (try simp only [liE, lO, lU, snd, aN]); rfl) (.ret rfl ?_))
  rw [he]
  cases hi : ms.findIdx? (supM C.w D.w) with
  | none => rfl
  | some i =>
    simp only [SV.den, SV.dens, BT.eval, IT.eval, Env.int, List.getElem?_cons_zero, List.getElem?_cons_succ]
    have key : ∀ (x y : Int) (b c : Bool), x = y → b = c → Value.tuple #[.int .i64 x, .bool b, .int .i64 0] = Value.tuple #[.int .i64 y, .bool c, .int .i64 0] := by rintro _ _ _ _ rfl rfl; rfl
    exact key _ _ _ _ (if_neg (show ¬ (0 : Int) > (i : Int) by omega)) (by simp [cm, foundW])
theorem c_Count (p : Option Addr) (cp : Nat) (ms : List MD) (C D : WD) (hm : ModelsOk ms) (hc : Wok C.w) (hd : Wok D.w) (oc : C.ok) (hl : ms.length < 2 ^ 62) : RetP Tryd.prog n_analogy_Count [slv p ms.length cp, C.v, D.v] (fun R => ModelsAt R p ms ∧ WordAt R C.p C.w ∧ WordAt R D.p D.w ∧ VarsOk R) (.tuple #[.int .i64 (countW ms C.w D.w).1, .int .i64 (countW ms C.w D.w).2]) := by
  refine Fn.of S_analogy_Count mx [.p p, .i ms.length, .i cp, .p C.p, .i C.w.length, .i C.cap, .p D.p, .i D.w.length, .i D.cap] rfl rfl fun c hp => .alloc fun b0 => ?_
  obtain ⟨hM, hC, hD, hV⟩ := hp
  refine .callV (c_check p cp ms (some ⟨b0, 0, none⟩) 2 [C, D] hm (by simp [hc, hd]) (by simp)) (fun g => ⟨hM.mono g.R, g.cells (j := 0) rfl rfl rfl, ?_⟩) (.env (by (try simp only [liE, lO, lU, snd, aN]); rfl) (.ite (fun h1 => .ret rfl ?_) (fun h1 => .chk (by ((try simp only [evE, liE, lO, lU, snd]); (try simp only [cmE])); omega) ?_)))
  · simp only [List.mem_cons, List.not_mem_nil, or_false]
    rintro x (rfl | rfl)
    · exact hC.mono g.R
    · exact hD.mono g.R
  · ((try simp only [evE, liE, lO, lU, snd] at h1); (try simp only [cmE] at h1))
    replace h1 : chkM ms [C.w, D.w] ≠ 0 := h1
    have : countW ms C.w D.w = (0, chkM ms [C.w, D.w]) := by unfold countW; rw [if_pos h1]
    rw [this]; rfl
  ((try simp only [evE, liE, lO, lU, snd] at h1); (try simp only [cmE] at h1))
  replace h1 : chkM ms [C.w, D.w] = 0 := h1
  obtain ⟨l0, l1, l2⟩ := chkM_all h1
  simp only [List.mem_cons, List.not_mem_nil, or_false, forall_eq_or_imp, forall_eq] at l2
  have he : countW ms C.w D.w = (((ms.countP (supM C.w D.w) : Nat) : Int), 0) := by unfold countW; rw [if_neg (by simp [h1])]
  rw [he]
  refine .loop (fun n us _ => ∃ (j : Nat), us = [.i ((ms.take j).countP (supM C.w D.w) : Nat), .i j] ∧ n + j = ms.length) ms.length ⟨0, rfl, rfl⟩ ?_
  rintro n _ m _ ⟨j, rfl, hn⟩
  refine .env (by (try simp only [liE, lO, lU, snd, aN]); rfl) (.ite (fun h2 => ?_) (fun h2 => .ret rfl ?_)) <;> ((try simp only [evE, liE, lO, lU, snd] at h2); (try simp only [cmE] at h2))
  · have hj : j < ms.length := by omega
    have hok := hm _ (List.getElem_mem hj)
    have hat := hM.2 _ (List.getElem_mem hj)
    have hle := l1 _ (List.getElem_mem hj)
    have hcn : (ms.take j).countP (supM C.w D.w) ≤ j := by have := List.countP_le_length (p := supM C.w D.w) (l := ms.take j); simp at this; omega
    refine .loadMD ms j hj (fun g => hM.1.mono g.R) (.env (by (try simp only [liE, lO, lU, snd, aN]); rfl) (.alloc fun b1 => .callV (c_supports ms[j].a ms[j].b C D hok.2.2.1 hok.2.2.2 oc (by omega) (by omega) (by omega) (by omega)) (fun g => ⟨hat.1.mono g.R, hat.2.mono g.R, hC.mono g.R, hD.mono g.R, hV.mono g.R⟩) (.env (by (try simp only [liE, lO, lU, snd, aN]); rfl) ?_)))
    refine .join (fun us _ => us = [.i ((ms.take (j + 1)).countP (supM C.w D.w) : Nat)]) (.ite (fun h3 => .again rfl ?_) (fun h3 => .again rfl ?_)) ?_
    · replace h3 : supM C.w D.w ms[j] = true := h3
      (simp only [evE, liE, lO, lU, snd, Sh.uss, Sh.us, atAddr, map_add0, List.append_nil])
      rw [add_i64 _ (by omega), countP_snoc hj, if_pos h3]
    · replace h3 : supM C.w D.w ms[j] = false := h3
      (simp only [evE, liE, lO, lU, snd, Sh.uss, Sh.us, atAddr, map_add0, List.append_nil])
      rw [countP_snoc hj, if_neg (by simp [h3]), Nat.add_zero]
    rintro _ _ _ rfl
    refine .env (by (try simp only [liE, lO, lU, snd, aN]); rfl) (.again rfl ⟨n - 1, by omega, j + 1, ?_, by omega⟩)
    (simp only [evE, liE, lO, lU, snd, Sh.uss, Sh.us, atAddr, map_add0, List.append_nil]); rw [add_i64 j (by omega)]
  · rw [List.take_of_length_le (by omega)]; rfl
end Go.Proofs.YtpbbnmjkbfbelabDoor


/- Chapter 30: the reference's Extend. -/
namespace Go.Sy
open Go Go.RowKit
section
variable {P : Program} {c : Cx} {L : List Nat} {ρ : Env} {blks : List Blk} {m : Mem} {R : Value → HW → Prop} {Dn : Nat → List U → HW → Prop} {A : List (List U → HW → Prop)}
end
def votes (ms : List MD) (c w : List Snd) : Nat := ms.countP (supM c w)
def stepE (N : List Snd → Nat) (s : List Snd × Nat) : Option (List Snd) → List Snd × Nat
  | none => s
  | some w => if w.length > 32 then s else if N w > s.2 ∨ (N w = s.2 ∧ ordW w s.1 < 0) then (w, N w) else s
def optsM (c : List Snd) (m : MD) : List (Option (List Snd)) := [solveW m.a.w m.b.w c, frontW m.a.w m.b.w c]
def bestE (ms ks : List MD) (c : List Snd) : List Snd × Nat := (ks.flatMap (optsM c)).foldl (stepE (votes ms c)) ([], 0)
def extW (ms : List MD) (c : List Snd) : List Snd × Int × Int := if chkM ms [c] ≠ 0 then ([], 0, chkM ms [c]) else if (bestE ms ms c).2 = 0 then ([], 0, 5) else ((bestE ms ms c).1, ((bestE ms ms c).2 : Nat), 0)
def ExtR (et : TypeId) (mq : Mem) (v : Value) (r : List Snd × Int × Int) : Prop := ∃ q cq, v = .tuple #[slv q r.1.length cq, .int .i64 r.2.1, .int .i64 r.2.2] ∧ RowW mq et q cq r.1
end Go.Sy
namespace Go.Proofs.YtpbbnmjkbfbelabDoor
open Go Go.Sy Go.RowKit
end Go.Proofs.YtpbbnmjkbfbelabDoor

