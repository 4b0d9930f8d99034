/- Words: checks, for the chapters behind 17. -/
import Derived.Test.YtpbbnmjkbfbelaaDoorPt
import Derived.Test.YtpbbnmjkbfbelaaDoorTa
set_option linter.unusedSimpArgs false
set_option linter.unusedVariables false
namespace Go.Sy
open Go
theorem or_shift {s : Snd} (h : Sok s) : cm .eql (ar .shr .u32 ((s.1 ||| s.2 : Nat) : Int) 24) 0 = decide (s.1 ||| s.2 ≤ 16777215) := by
  have hl : s.1 ||| s.2 < 2 ^ 32 := Nat.or_lt_two_pow h.1 h.2
  have := ar_shr (s.1 ||| s.2) 24 (by omega)
  rw [show ((24 : Nat) : Int) = 24 from rfl] at this
  rw [this]
  show ((((s.1 ||| s.2) >>> 24 : Nat) : Int) == 0) = _
  rw [Bool.eq_iff_iff]
  simp only [beq_iff_eq, decide_eq_true_eq, Nat.shiftRight_eq_div_pow]
  omega
def Wok (w : List Snd) : Prop := ∀ s ∈ w, Sok s
theorem Wok.at {w : List Snd} (h : Wok w) {j : Nat} (hj : j < w.length) : Sok w[j] := h _ (List.getElem_mem hj)
theorem checkW_cases {w : List Snd} (h : w.length ≤ 32) : checkW w = if w.all valid = true then 0 else 14 := by unfold checkW; rw [if_neg (by omega)]
theorem all_drop {w : List Snd} {j : Nat} (hj : j < w.length) (h : ∀ s ∈ w.take j, valid s = true) (hv : valid w[j] = true) : ∀ s ∈ w.take (j + 1), valid s = true := by
  intro s hs
  rw [List.take_succ_eq_append_getElem hj] at hs
  rcases List.mem_append.1 hs with hs | hs
  · exact h s hs
  · simp at hs; rw [hs]; exact hv
end Go.Sy
namespace Go.Proofs.YtpbbnmjkbfbelaaDoor
open Go Go.Sy Go.RowKit
theorem mx : Tryd.prog.follows .mixedOrders = true := by kernel_rfl
theorem c_wordValid (s : Snd) (h : Sok s) : Ret Tryd.prog n_word_valid [snd s] (.bool (valid s)) := by
  have e1 := ar_and s.1 s.2 h.1 h.2
  have e2 := ar_or s.1 s.2 h.1 h.2
  refine Fn.of S_word_valid mx [.i s.1, .i s.2] rfl rfl fun c _ => .alloc fun _ => .ite (fun h1 => .ret rfl ?_) (fun h1 => .ret rfl ?_)
  · replace h1 : cm .eql (ar .and .u32 (s.1 : Int) (s.2 : Int)) 0 = true := h1
    rw [e1] at h1
    ((try simp only [evE, liE, letsOf, letU, snd] at h1); (try simp only [cmE] at h1))
    show Value.bool (cm .eql (ar .shr .u32 (ar .or .u32 (s.1 : Int) (s.2 : Int)) 24) 0) = _
    rw [e2, or_shift h]
    have h1' : s.1 &&& s.2 = 0 := by omega
    simp [valid, h1']
  · replace h1 : cm .eql (ar .and .u32 (s.1 : Int) (s.2 : Int)) 0 = false := h1
    rw [e1] at h1
    ((try simp only [evE, liE, letsOf, letU, snd] at h1); (try simp only [cmE] at h1))
    have h1' : ¬ s.1 &&& s.2 = 0 := by omega
    ((try simp only [evE, liE, letsOf, letU, snd]); (try simp only [cmE])); simp [valid, h1']
theorem c_ref02Valid (s : Snd) (h : Sok s) : Ret Tryd.prog n_ref02_Valid [snd s] (.bool (valid s)) := by
  have e1 := ar_and s.1 s.2 h.1 h.2
  refine Fn.of S_ref02_Valid mx [.i s.1, .i s.2] rfl rfl fun c _ => .alloc fun _ => .ret rfl ?_
  show Value.bool (bif (bif cm .eql (ar .and .u32 (s.1 : Int) (s.2 : Int)) 0 then decide ((s.1 : Int) < 16777216) else false) then decide ((s.2 : Int) < 16777216) else false) = _
  rw [e1, pick_and, pick_and]
  congr 1
  rw [Bool.eq_iff_iff]
  simp only [valid, cm, Bool.and_eq_true, beq_iff_eq, decide_eq_true_eq]
  have h1 := Nat.left_le_or (n := s.1) (m := s.2)
  have h2 := Nat.right_le_or (n := s.1) (m := s.2)
  constructor
  · rintro ⟨⟨a, b⟩, c⟩
    have := Nat.or_lt_two_pow (x := s.1) (y := s.2) (n := 24) (by omega) (by omega)
    omega
  · rintro ⟨a, b⟩; omega
theorem c_wordCheck (p : Option Addr) (cap : Nat) (w : List Snd) (h : Wok w) : RetP Tryd.prog n_word_Check [slv p w.length cap] (fun R => WordAt R p w) (.int .i64 (checkW w)) := by
  refine Fn.of S_word_Check mx [.p p, .i w.length, .i cap] rfl rfl fun c hp => .chk (by ((try simp only [evE, liE, letsOf, letU, snd]); (try simp only [cmE])); omega) (.ite (fun h1 => .ret rfl ?_) (fun h1 => .chk (by ((try simp only [evE, liE, letsOf, letU, snd]); (try simp only [cmE])); omega) ?_)) <;> ((try simp only [evE, liE, letsOf, letU, snd] at h1); (try simp only [cmE] at h1))
  · ((try simp only [evE, liE, letsOf, letU, snd]); (try simp only [cmE])); unfold checkW; rw [if_pos (by omega)]
  · have hc := checkW_cases (w := w) (by omega)
    refine .loop (fun n us _ => ∃ (e : Int) (j : Nat), us = [.i e, .i j] ∧ n + j = w.length ∧ ∀ s ∈ w.take j, valid s = true) w.length ⟨0, 0, rfl, rfl, by simp⟩ ?_
    rintro n _ m _ ⟨e, j, rfl, hn, hok⟩
    refine .ite (fun h2 => ?_) (fun h2 => .ret rfl ?_) <;> ((try simp only [evE, liE, letsOf, letU, snd] at h2); (try simp only [cmE] at h2))
    · have hj : j < w.length := by omega
      refine .loadW w j hj (fun g => hp.mono g.R) (.alloc fun _ => .callV (c_wordValid w[j] (h.at hj)) (fun _ => trivial) (.ite (fun h3 => .ret rfl ?_) (fun h3 => .again rfl ⟨n - 1, by omega, e, j + 1, ?_, by omega, all_drop hj hok ?_⟩))) <;> ((try simp only [evE, liE, letsOf, letU, snd] at h3); (try simp only [cmE] at h3))
      · have : ¬ w.all valid = true := fun ha => by rw [List.all_eq_true.1 ha _ (List.getElem_mem hj)] at h3; cases h3
        ((try simp only [evE, liE, letsOf, letU, snd]); (try simp only [cmE])); rw [hc, if_neg this]
      · (simp only [evE, liE, letsOf, letU, snd, Sh.uss, Sh.us, atAddr, map_add0, List.append_nil]); rw [add_i64 j (by omega)]
      · exact h3
    · rw [List.take_of_length_le (by omega)] at hok
      ((try simp only [evE, liE, letsOf, letU, snd]); (try simp only [cmE])); rw [hc, if_pos (List.all_eq_true.2 hok)]
theorem c_ref02Check (p : Option Addr) (cap : Nat) (w : List Snd) (h : Wok w) : RetP Tryd.prog n_ref02_Check [slv p w.length cap] (fun R => WordAt R p w) (.int .i64 (checkW w)) := by
  refine Fn.of S_ref02_Check mx [.p p, .i w.length, .i cap] rfl rfl fun c hp => .chk (by ((try simp only [evE, liE, letsOf, letU, snd]); (try simp only [cmE])); omega) (.ite (fun h1 => .ret rfl ?_) (fun h1 => ?_)) <;> ((try simp only [evE, liE, letsOf, letU, snd] at h1); (try simp only [cmE] at h1))
  · ((try simp only [evE, liE, letsOf, letU, snd]); (try simp only [cmE])); unfold checkW; rw [if_pos (by omega)]
  · have hc := checkW_cases (w := w) (by omega)
    refine .loop (fun n us _ => ∃ (e : Int) (j : Nat), us = [.i e, .i j] ∧ n + j = w.length ∧ ∀ s ∈ w.take j, valid s = true) w.length ⟨0, 0, rfl, rfl, by simp⟩ ?_
    rintro n _ m _ ⟨e, j, rfl, hn, hok⟩
    refine .chk (by ((try simp only [evE, liE, letsOf, letU, snd]); (try simp only [cmE])); omega) (.ite (fun h2 => ?_) (fun h2 => .ret rfl ?_)) <;> ((try simp only [evE, liE, letsOf, letU, snd] at h2); (try simp only [cmE] at h2))
    · have hj : j < w.length := by omega
      refine .loadW w j hj (fun g => hp.mono g.R) (.callV (c_ref02Valid w[j] (h.at hj)) (fun _ => trivial) (.ite (fun h3 => .ret rfl ?_) (fun h3 => .again rfl ⟨n - 1, by omega, e, j + 1, ?_, by omega, all_drop hj hok ?_⟩))) <;> ((try simp only [evE, liE, letsOf, letU, snd] at h3); (try simp only [cmE] at h3))
      · have : ¬ w.all valid = true := fun ha => by rw [List.all_eq_true.1 ha _ (List.getElem_mem hj)] at h3; cases h3
        ((try simp only [evE, liE, letsOf, letU, snd]); (try simp only [cmE])); rw [hc, if_neg this]
      · (simp only [evE, liE, letsOf, letU, snd, Sh.uss, Sh.us, atAddr, map_add0, List.append_nil]); rw [add_i64 j (by omega)]
      · exact h3
    · rw [List.take_of_length_le (by omega)] at hok
      ((try simp only [evE, liE, letsOf, letU, snd]); (try simp only [cmE])); rw [hc, if_pos (List.all_eq_true.2 hok)]
end Go.Proofs.YtpbbnmjkbfbelaaDoor
namespace Go.Sy
open Go Go.RowKit
/-- Words in cells. -/
def WordsAt (R : Mv) (q : Option Addr) (l : List WD) : Prop := Cells R q (l.map WD.v) ∧ ∀ x ∈ l, WordAt R x.p x.w
theorem WordsAt.mono {R S : Mv} {q : Option Addr} {l : List WD} (h : WordsAt R q l) (hle : R.le S) : WordsAt S q l := ⟨h.1.mono hle, fun x hx => (h.2 x hx).mono hle⟩
theorem Good.cells {c : Cx} {L : List Nat} {ρ : Env} {blks : List Blk} {m : Mem} (g : Good c L m) {j b o : Nat} {k : Blk} {xs : List Value} (h1 : L[j]? = some b) (h2 : blks[j]? = some k) (h : ((SV.dens L ρ k.cells).drop o).take xs.length = xs) : Cells (vw c L ρ blks m) (some ⟨b, o, none⟩) xs := fun i x hx => by
  refine ⟨b, o, rfl, ?_⟩
  rw [g.at h1 h2]
  rw [← h, List.getElem?_take] at hx
  split at hx
  · rw [List.getElem?_drop] at hx; exact hx
  · cases hx
theorem Mem.join_new {m mq : Mem} {b : Nat} (h : m b = none) : m.join mq b = mq b := by unfold Mem.join; rw [h]
theorem Mem.join_old {m mq : Mem} {b : Nat} (h : m b ≠ none) : m.join mq b = m b := by
  unfold Mem.join
  cases hm : m b with
  | none => exact absurd hm h
  | some o => rfl
theorem Row.joinL {m mq : Mem} {e : TypeId} {size : Nat} {q : Option Addr} {cap n : Nat} {xs : List Value} (h : Row m e size q cap n xs) : Row (m.join mq) e size q cap n xs := h.keep fun g _ hg' => Mem.join_old hg'
theorem Row.joinR {m mq : Mem} {e : TypeId} {size : Nat} {q : Option Addr} {cap n : Nat} {xs : List Value} (h : Row mq e size q cap n xs) (hf : ∀ b, mq b ≠ none → m b = none) : Row (m.join mq) e size q cap n xs := h.keep fun g _ hg' => Mem.join_new (hf g hg')
theorem wcells_one (l : List Snd) : ∀ u ∈ wcells l, u.oneCell' = true := fun u hu => by
  obtain ⟨x, _, hx⟩ := List.mem_flatMap.1 hu
  simp only [scell, List.mem_cons, List.not_mem_nil, or_false] at hx
  rcases hx with rfl | rfl <;> rfl
theorem row_cap0 {m : Mem} {e : TypeId} {size : Nat} {q : Option Addr} {cap n : Nat} {xs : List Value} (h : Row m e size q cap n xs) (hq : q = none) : cap = 0 := by
  rcases h.2 with ⟨_, _, h⟩ | ⟨g, _, h, _⟩
  · exact h
  · rw [h] at hq; cases hq
theorem snd_eq {s t : Snd} : ((s.1 : Int) = (t.1 : Int) ∧ (s.2 : Int) = (t.2 : Int)) ↔ s = t := by
  constructor
  · rintro ⟨h1, h2⟩; exact Prod.ext (by omega) (by omega)
  · rintro rfl; exact ⟨rfl, rfl⟩
theorem take_succ_eq {α : Type} {a b : List α} {j : Nat} (ha : j < a.length) (hb : j < b.length) (h : a.take j = b.take j) : a.take (j + 1) = b.take (j + 1) ↔ a[j] = b[j] := by
  rw [List.take_succ_eq_append_getElem ha, List.take_succ_eq_append_getElem hb, h]
  constructor
  · intro e
    have := List.append_cancel_left e
    simpa using this
  · intro e; rw [e]
theorem take_all {α : Type} [DecidableEq α] {a b : List α} (hl : a.length = b.length) (h : a.take a.length = b.take a.length) : a = b := by
  rw [List.take_of_length_le (Nat.le_refl _), List.take_of_length_le (by omega)] at h; exact h
/-! Parts of words. -/
def WD.from (x : WD) (n : Nat) : WD := ⟨if x.cap = n then x.p else x.p.map fun a => a.add (2 * n), x.cap - n, x.w.drop n⟩
def WD.upto (x : WD) (n : Nat) : WD := ⟨x.p, x.cap, x.w.take n⟩
/-- A word as an argument. -/
structure WD.ok (x : WD) : Prop where
  le : x.w.length ≤ x.cap
  nil : x.p = none → x.cap = 0
theorem WD.from_ok {x : WD} (h : x.ok) {n : Nat} (hn : n ≤ x.w.length) : (x.from n).ok := ⟨by have := h.le; simp [WD.from]; omega, fun hp => by
  have := h.nil
  simp only [WD.from] at hp ⊢
  split at hp
  · omega
  · cases hx : x.p with
    | none => rw [this hx]; omega
    | some a => rw [hx] at hp; cases hp⟩
theorem WD.upto_ok {x : WD} (h : x.ok) (n : Nat) : (x.upto n).ok := ⟨by have := h.le; simp [WD.upto]; omega, h.nil⟩
theorem wcells_drop (w : List Snd) (n : Nat) : wcells (w.drop n) = (wcells w).drop (2 * n) := by
  induction w generalizing n with
  | nil => simp [wcells]
  | cons s w ih =>
    cases n with
    | zero => rfl
    | succ n =>
      simp only [List.drop_succ_cons, wcells, List.flatMap_cons, scell] at ih ⊢
      rw [ih, show 2 * (n + 1) = 2 * n + 1 + 1 by omega]
      rfl
theorem wcells_take (w : List Snd) (n : Nat) : wcells (w.take n) = (wcells w).take (2 * n) := by
  induction w generalizing n with
  | nil => simp [wcells]
  | cons s w ih =>
    cases n with
    | zero => rfl
    | succ n =>
      simp only [List.take_succ_cons, wcells, List.flatMap_cons, scell] at ih ⊢
      rw [ih, show 2 * (n + 1) = 2 * n + 1 + 1 by omega]
      rfl
theorem WordAt.from {V : Mv} {x : WD} (h : WordAt V x.p x.w) (hl : x.w.length ≤ x.cap) (n : Nat) : WordAt V (x.from n).p (x.from n).w := by
  simp only [WD.from]
  by_cases e : x.cap = n
  · rw [List.drop_of_length_le (by omega)]; exact fun i y hy => by simp [wcells] at hy
  · rw [if_neg e]
    intro i y hy
    rw [wcells_drop, List.getElem?_drop] at hy
    obtain ⟨b, o, h1, h2⟩ := h _ _ hy
    refine ⟨b, o + 2 * n, by rw [h1, Option.map_some, addr_add], ?_⟩
    rw [← h2]; congr 1; omega
theorem WordAt.upto {V : Mv} {x : WD} (h : WordAt V x.p x.w) (n : Nat) : WordAt V (x.upto n).p (x.upto n).w := fun i y hy => by
  simp only [WD.upto, wcells_take] at hy
  rw [List.getElem?_take] at hy
  split at hy
  · exact h i y hy
  · cases hy
theorem den_from {L : List Nat} {ρ : Env} {i : Nat} {C N Ln : IT} {x : WD} {n : Nat} (hp : ρ.ptr i = x.p) (hC : C.eval ρ = (x.cap : Int)) (hN : N.eval ρ = (n : Int)) (hL : Ln.eval ρ = (x.w.length : Int)) : (SV.sl i (.ifeq C N (.lit 0) (.off N 2 (.lit 0))) (.dif Ln N) (.dif C N)).den L ρ = (x.from n).v := by
  simp only [SV.den, IT.eval, hC, hN, hL, WD.v, WD.from, slv_eq, atAddr, hp, List.length_drop]
  rw [show ((x.w.length : Int) - n).toNat = x.w.length - n by omega, show ((x.cap : Int) - n).toNat = x.cap - n by omega]
  congr 1
  by_cases e : x.cap = n
  · rw [if_pos (by omega), if_pos e]
    cases x.p <;> simp [addr_zero]
  · rw [if_neg (by omega), if_neg e, show ((0 : Int) + n * ((2 : Nat) : Int)).toNat = 2 * n by omega]
theorem den_upto {L : List Nat} {ρ : Env} {i : Nat} {C N : IT} {x : WD} {n : Nat} (hp : ρ.ptr i = x.p) (hC : C.eval ρ = (x.cap : Int)) (hN : N.eval ρ = (n : Int)) (hn : n ≤ x.w.length) : (SV.sl i (.ifeq C (.lit 0) (.lit 0) (.lit 0)) N C).den L ρ = (x.upto n).v := by
  simp only [SV.den, IT.eval, hC, hN, WD.v, WD.upto, slv_eq, atAddr, hp, ite_self, List.length_take]
  rw [show ((n : Int)).toNat = min n x.w.length by omega, show ((x.cap : Int)).toNat = x.cap by omega]
  congr 1
  cases x.p <;> simp [addr_zero]
/-! The order of words. -/
def ordS (s t : Snd) : Int := if s.1 < t.1 then -1 else if t.1 < s.1 then 1 else if s.2 < t.2 then -1 else if t.2 < s.2 then 1 else 0
def ordW : List Snd → List Snd → Int
  | [], [] => 0
  | [], _ :: _ => -1
  | _ :: _, [] => 1
  | s :: a, t :: b => if ordS s t ≠ 0 then ordS s t else ordW a b
theorem ordS_zero {s t : Snd} : ordS s t = 0 ↔ s = t := by
  unfold ordS
  constructor
  · intro h
    split at h
    · omega
    · split at h
      · omega
      · split at h
        · omega
        · split at h
          · omega
          · exact Prod.ext (by omega) (by omega)
  · rintro rfl; simp
theorem ordW_drop {a b : List Snd} {j : Nat} (ha : j < a.length) (hb : j < b.length) : ordW (a.drop j) (b.drop j) = if ordS a[j] b[j] ≠ 0 then ordS a[j] b[j] else ordW (a.drop (j + 1)) (b.drop (j + 1)) := by
  rw [List.drop_eq_getElem_cons ha, List.drop_eq_getElem_cons hb, ordW]
theorem ordW_end {a b : List Snd} {j : Nat} (h : a.length ≤ j ∨ b.length ≤ j) (ha : j ≤ a.length) (hb : j ≤ b.length) : ordW (a.drop j) (b.drop j) = if a.length < b.length then -1 else if b.length < a.length then 1 else 0 := by
  rcases Nat.lt_or_ge j a.length with h1 | h1 <;> rcases Nat.lt_or_ge j b.length with h2 | h2
  · omega
  · rw [List.drop_eq_getElem_cons h1, List.drop_of_length_le h2, ordW, if_neg (by omega), if_pos (by omega)]
  · rw [List.drop_eq_getElem_cons h2, List.drop_of_length_le h1, ordW, if_pos (by omega)]
  · rw [List.drop_of_length_le h1, List.drop_of_length_le h2, ordW, if_neg (by omega), if_neg (by omega)]
/-- How much two words have in common at the beginning. -/
def cpl : List Snd → List Snd → Nat
  | x :: a, y :: b => if x = y then 1 + cpl a b else 0
  | _, _ => 0
theorem cpl_le (a b : List Snd) : cpl a b ≤ a.length ∧ cpl a b ≤ b.length := by
  induction a generalizing b with
  | nil => simp [cpl]
  | cons x a ih =>
    cases b with
    | nil => simp [cpl]
    | cons y b =>
      have := ih b
      unfold cpl
      split
      · simp; omega
      · simp
theorem cpl_drop {a b : List Snd} {j : Nat} (ha : j < a.length) (hb : j < b.length) : cpl (a.drop j) (b.drop j) = if a[j] = b[j] then 1 + cpl (a.drop (j + 1)) (b.drop (j + 1)) else 0 := by
  rw [List.drop_eq_getElem_cons ha, List.drop_eq_getElem_cons hb, cpl]
theorem cpl_end {a b : List Snd} {j : Nat} (h : a.length ≤ j ∨ b.length ≤ j) : cpl (a.drop j) (b.drop j) = 0 := by
  rcases h with h | h
  · rw [List.drop_of_length_le h]; simp [cpl]
  · rw [List.drop_of_length_le h]; cases a.drop j <;> rfl
end Go.Sy
