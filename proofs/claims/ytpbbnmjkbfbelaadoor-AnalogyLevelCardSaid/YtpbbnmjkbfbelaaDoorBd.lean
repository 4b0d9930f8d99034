/- Words: checks, for the chapters behind 17. -/
import Derived.Test.YtpbbnmjkbfbelaaDoorPt
import Derived.Test.YtpbbnmjkbfbelaaDoorTa
import Derived.Test.YtpbbnmjkbfbelaaDoorTb
import Derived.Test.YtpbbnmjkbfbelaaDoorTd
import Derived.Test.YtpbbnmjkbfbelaaDoorTn
set_option linter.unusedSimpArgs false
set_option linter.unusedVariables false
/- Words: checks, for the chapters behind 17. -/
namespace Go.Sy
open Go
theorem or_shift {s : Snd} (h : Sok s) : cm .eql (ar .shr .u32 ((s.1 ||| s.2 : Nat) : Int) 24) 0 = decide (s.1 ||| s.2 ≤ 16777215) := by
  have hl : s.1 ||| s.2 < 2 ^ 32 := Nat.or_lt_two_pow h.1 h.2
  have := ar_shr (s.1 ||| s.2) 24 (by omega)
  rw [show ((24 : Nat) : Int) = 24 from rfl] at this
  rw [this]
  show ((((s.1 ||| s.2) >>> 24 : Nat) : Int) == 0) = _
  rw [Bool.eq_iff_iff]
  simp only [beq_iff_eq, decide_eq_true_eq, Nat.shiftRight_eq_div_pow]
  omega
def Wok (w : List Snd) : Prop := ∀ s ∈ w, Sok s
theorem Wok.at {w : List Snd} (h : Wok w) {j : Nat} (hj : j < w.length) : Sok w[j] := h _ (List.getElem_mem hj)
theorem checkW_cases {w : List Snd} (h : w.length ≤ 32) : checkW w = if w.all valid = true then 0 else 14 := by unfold checkW; rw [if_neg (by omega)]
theorem all_drop {w : List Snd} {j : Nat} (hj : j < w.length) (h : ∀ s ∈ w.take j, valid s = true) (hv : valid w[j] = true) : ∀ s ∈ w.take (j + 1), valid s = true := by
  intro s hs
  rw [List.take_succ_eq_append_getElem hj] at hs
  rcases List.mem_append.1 hs with hs | hs
  · exact h s hs
  · simp at hs; rw [hs]; exact hv
end Go.Sy
namespace Go.Proofs.YtpbbnmjkbfbelaaDoor
open Go Go.Sy Go.RowKit
theorem mx : Tryd.prog.follows .mixedOrders = true := by kernel_rfl
theorem c_wordValid (s : Snd) (h : Sok s) : Ret Tryd.prog n_word_valid [snd s] (.bool (valid s)) := by
  have e1 := ar_and s.1 s.2 h.1 h.2
  have e2 := ar_or s.1 s.2 h.1 h.2
  refine Fn.of S_word_valid mx [.i s.1, .i s.2] rfl rfl fun c _ => .alloc fun _ => .ite (fun h1 => .ret rfl ?_) (fun h1 => .ret rfl ?_)
  · replace h1 : cm .eql (ar .and .u32 (s.1 : Int) (s.2 : Int)) 0 = true := h1
    rw [e1] at h1
    ((try simp only [evE, liE, letsOf, letU, snd] at h1); (try simp only [cmE] at h1))
    show Value.bool (cm .eql (ar .shr .u32 (ar .or .u32 (s.1 : Int) (s.2 : Int)) 24) 0) = _
    rw [e2, or_shift h]
    have h1' : s.1 &&& s.2 = 0 := by omega
    simp [valid, h1']
  · replace h1 : cm .eql (ar .and .u32 (s.1 : Int) (s.2 : Int)) 0 = false := h1
    rw [e1] at h1
    ((try simp only [evE, liE, letsOf, letU, snd] at h1); (try simp only [cmE] at h1))
    have h1' : ¬ s.1 &&& s.2 = 0 := by omega
    ((try simp only [evE, liE, letsOf, letU, snd]); (try simp only [cmE])); simp [valid, h1']
theorem c_ref02Valid (s : Snd) (h : Sok s) : Ret Tryd.prog n_ref02_Valid [snd s] (.bool (valid s)) := by
  have e1 := ar_and s.1 s.2 h.1 h.2
  refine Fn.of S_ref02_Valid mx [.i s.1, .i s.2] rfl rfl fun c _ => .alloc fun _ => .ret rfl ?_
  show Value.bool (bif (bif cm .eql (ar .and .u32 (s.1 : Int) (s.2 : Int)) 0 then decide ((s.1 : Int) < 16777216) else false) then decide ((s.2 : Int) < 16777216) else false) = _
  rw [e1, pick_and, pick_and]
  congr 1
  rw [Bool.eq_iff_iff]
  simp only [valid, cm, Bool.and_eq_true, beq_iff_eq, decide_eq_true_eq]
  have h1 := Nat.left_le_or (n := s.1) (m := s.2)
  have h2 := Nat.right_le_or (n := s.1) (m := s.2)
  constructor
  · rintro ⟨⟨a, b⟩, c⟩
    have := Nat.or_lt_two_pow (x := s.1) (y := s.2) (n := 24) (by omega) (by omega)
    omega
  · rintro ⟨a, b⟩; omega
theorem c_wordCheck (p : Option Addr) (cap : Nat) (w : List Snd) (h : Wok w) : RetP Tryd.prog n_word_Check [slv p w.length cap] (fun R => WordAt R p w) (.int .i64 (checkW w)) := by
  refine Fn.of S_word_Check mx [.p p, .i w.length, .i cap] rfl rfl fun c hp => .chk (by ((try simp only [evE, liE, letsOf, letU, snd]); (try simp only [cmE])); omega) (.ite (fun h1 => .ret rfl ?_) (fun h1 => .chk (by ((try simp only [evE, liE, letsOf, letU, snd]); (try simp only [cmE])); omega) ?_)) <;> ((try simp only [evE, liE, letsOf, letU, snd] at h1); (try simp only [cmE] at h1))
  · ((try simp only [evE, liE, letsOf, letU, snd]); (try simp only [cmE])); unfold checkW; rw [if_pos (by omega)]
  · have hc := checkW_cases (w := w) (by omega)
    refine .loop (fun n us _ => ∃ (e : Int) (j : Nat), us = [.i e, .i j] ∧ n + j = w.length ∧ ∀ s ∈ w.take j, valid s = true) w.length ⟨0, 0, rfl, rfl, by simp⟩ ?_
    rintro n _ m _ ⟨e, j, rfl, hn, hok⟩
    refine .ite (fun h2 => ?_) (fun h2 => .ret rfl ?_) <;> ((try simp only [evE, liE, letsOf, letU, snd] at h2); (try simp only [cmE] at h2))
    · have hj : j < w.length := by omega
      refine .loadW w j hj (fun g => hp.mono g.R) (.alloc fun _ => .callV (c_wordValid w[j] (h.at hj)) (fun _ => trivial) (.ite (fun h3 => .ret rfl ?_) (fun h3 => .again rfl ⟨n - 1, by omega, e, j + 1, ?_, by omega, all_drop hj hok ?_⟩))) <;> ((try simp only [evE, liE, letsOf, letU, snd] at h3); (try simp only [cmE] at h3))
      · have : ¬ w.all valid = true := fun ha => by rw [List.all_eq_true.1 ha _ (List.getElem_mem hj)] at h3; cases h3
        ((try simp only [evE, liE, letsOf, letU, snd]); (try simp only [cmE])); rw [hc, if_neg this]
      · (simp only [evE, liE, letsOf, letU, snd, Sh.uss, Sh.us, atAddr, map_add0, List.append_nil]); rw [add_i64 j (by omega)]
      · exact h3
    · rw [List.take_of_length_le (by omega)] at hok
      ((try simp only [evE, liE, letsOf, letU, snd]); (try simp only [cmE])); rw [hc, if_pos (List.all_eq_true.2 hok)]
theorem c_ref02Check (p : Option Addr) (cap : Nat) (w : List Snd) (h : Wok w) : RetP Tryd.prog n_ref02_Check [slv p w.length cap] (fun R => WordAt R p w) (.int .i64 (checkW w)) := by
  refine Fn.of S_ref02_Check mx [.p p, .i w.length, .i cap] rfl rfl fun c hp => .chk (by ((try simp only [evE, liE, letsOf, letU, snd]); (try simp only [cmE])); omega) (.ite (fun h1 => .ret rfl ?_) (fun h1 => ?_)) <;> ((try simp only [evE, liE, letsOf, letU, snd] at h1); (try simp only [cmE] at h1))
  · ((try simp only [evE, liE, letsOf, letU, snd]); (try simp only [cmE])); unfold checkW; rw [if_pos (by omega)]
  · have hc := checkW_cases (w := w) (by omega)
    refine .loop (fun n us _ => ∃ (e : Int) (j : Nat), us = [.i e, .i j] ∧ n + j = w.length ∧ ∀ s ∈ w.take j, valid s = true) w.length ⟨0, 0, rfl, rfl, by simp⟩ ?_
    rintro n _ m _ ⟨e, j, rfl, hn, hok⟩
    refine .chk (by ((try simp only [evE, liE, letsOf, letU, snd]); (try simp only [cmE])); omega) (.ite (fun h2 => ?_) (fun h2 => .ret rfl ?_)) <;> ((try simp only [evE, liE, letsOf, letU, snd] at h2); (try simp only [cmE] at h2))
    · have hj : j < w.length := by omega
      refine .loadW w j hj (fun g => hp.mono g.R) (.callV (c_ref02Valid w[j] (h.at hj)) (fun _ => trivial) (.ite (fun h3 => .ret rfl ?_) (fun h3 => .again rfl ⟨n - 1, by omega, e, j + 1, ?_, by omega, all_drop hj hok ?_⟩))) <;> ((try simp only [evE, liE, letsOf, letU, snd] at h3); (try simp only [cmE] at h3))
      · have : ¬ w.all valid = true := fun ha => by rw [List.all_eq_true.1 ha _ (List.getElem_mem hj)] at h3; cases h3
        ((try simp only [evE, liE, letsOf, letU, snd]); (try simp only [cmE])); rw [hc, if_neg this]
      · (simp only [evE, liE, letsOf, letU, snd, Sh.uss, Sh.us, atAddr, map_add0, List.append_nil]); rw [add_i64 j (by omega)]
      · exact h3
    · rw [List.take_of_length_le (by omega)] at hok
      ((try simp only [evE, liE, letsOf, letU, snd]); (try simp only [cmE])); rw [hc, if_pos (List.all_eq_true.2 hok)]
end Go.Proofs.YtpbbnmjkbfbelaaDoor
namespace Go.Sy
open Go Go.RowKit
/-- Words in cells. -/
def WordsAt (R : Mv) (q : Option Addr) (l : List WD) : Prop := Cells R q (l.map WD.v) ∧ ∀ x ∈ l, WordAt R x.p x.w
theorem WordsAt.mono {R S : Mv} {q : Option Addr} {l : List WD} (h : WordsAt R q l) (hle : R.le S) : WordsAt S q l := ⟨h.1.mono hle, fun x hx => (h.2 x hx).mono hle⟩
theorem Good.cells {c : Cx} {L : List Nat} {ρ : Env} {blks : List Blk} {m : Mem} (g : Good c L m) {j b o : Nat} {k : Blk} {xs : List Value} (h1 : L[j]? = some b) (h2 : blks[j]? = some k) (h : ((SV.dens L ρ k.cells).drop o).take xs.length = xs) : Cells (vw c L ρ blks m) (some ⟨b, o, none⟩) xs := fun i x hx => by
  refine ⟨b, o, rfl, ?_⟩
  rw [g.at h1 h2]
  rw [← h, List.getElem?_take] at hx
  split at hx
  · rw [List.getElem?_drop] at hx; exact hx
  · cases hx
theorem Mem.join_new {m mq : Mem} {b : Nat} (h : m b = none) : m.join mq b = mq b := by unfold Mem.join; rw [h]
theorem Mem.join_old {m mq : Mem} {b : Nat} (h : m b ≠ none) : m.join mq b = m b := by
  unfold Mem.join
  cases hm : m b with
  | none => exact absurd hm h
  | some o => rfl
theorem Row.joinL {m mq : Mem} {e : TypeId} {size : Nat} {q : Option Addr} {cap n : Nat} {xs : List Value} (h : Row m e size q cap n xs) : Row (m.join mq) e size q cap n xs := h.keep fun g _ hg' => Mem.join_old hg'
theorem Row.joinR {m mq : Mem} {e : TypeId} {size : Nat} {q : Option Addr} {cap n : Nat} {xs : List Value} (h : Row mq e size q cap n xs) (hf : ∀ b, mq b ≠ none → m b = none) : Row (m.join mq) e size q cap n xs := h.keep fun g _ hg' => Mem.join_new (hf g hg')
theorem wcells_one (l : List Snd) : ∀ u ∈ wcells l, u.oneCell' = true := fun u hu => by
  obtain ⟨x, _, hx⟩ := List.mem_flatMap.1 hu
  simp only [scell, List.mem_cons, List.not_mem_nil, or_false] at hx
  rcases hx with rfl | rfl <;> rfl
theorem row_cap0 {m : Mem} {e : TypeId} {size : Nat} {q : Option Addr} {cap n : Nat} {xs : List Value} (h : Row m e size q cap n xs) (hq : q = none) : cap = 0 := by
  rcases h.2 with ⟨_, _, h⟩ | ⟨g, _, h, _⟩
  · exact h
  · rw [h] at hq; cases hq
theorem snd_eq {s t : Snd} : ((s.1 : Int) = (t.1 : Int) ∧ (s.2 : Int) = (t.2 : Int)) ↔ s = t := by
  constructor
  · rintro ⟨h1, h2⟩; exact Prod.ext (by omega) (by omega)
  · rintro rfl; exact ⟨rfl, rfl⟩
theorem take_succ_eq {α : Type} {a b : List α} {j : Nat} (ha : j < a.length) (hb : j < b.length) (h : a.take j = b.take j) : a.take (j + 1) = b.take (j + 1) ↔ a[j] = b[j] := by
  rw [List.take_succ_eq_append_getElem ha, List.take_succ_eq_append_getElem hb, h]
  constructor
  · intro e
    have := List.append_cancel_left e
    simpa using this
  · intro e; rw [e]
theorem take_all {α : Type} [DecidableEq α] {a b : List α} (hl : a.length = b.length) (h : a.take a.length = b.take a.length) : a = b := by
  rw [List.take_of_length_le (Nat.le_refl _), List.take_of_length_le (by omega)] at h; exact h
/-! Parts of words. -/
def WD.from (x : WD) (n : Nat) : WD := ⟨if x.cap = n then x.p else x.p.map fun a => a.add (2 * n), x.cap - n, x.w.drop n⟩
def WD.upto (x : WD) (n : Nat) : WD := ⟨x.p, x.cap, x.w.take n⟩
/-- A word as an argument. -/
structure WD.ok (x : WD) : Prop where
  le : x.w.length ≤ x.cap
  nil : x.p = none → x.cap = 0
theorem WD.from_ok {x : WD} (h : x.ok) {n : Nat} (hn : n ≤ x.w.length) : (x.from n).ok := ⟨by have := h.le; simp [WD.from]; omega, fun hp => by
  have := h.nil
  simp only [WD.from] at hp ⊢
  split at hp
  · omega
  · cases hx : x.p with
    | none => rw [this hx]; omega
    | some a => rw [hx] at hp; cases hp⟩
theorem WD.upto_ok {x : WD} (h : x.ok) (n : Nat) : (x.upto n).ok := ⟨by have := h.le; simp [WD.upto]; omega, h.nil⟩
theorem wcells_drop (w : List Snd) (n : Nat) : wcells (w.drop n) = (wcells w).drop (2 * n) := by
  induction w generalizing n with
  | nil => simp [wcells]
  | cons s w ih =>
    cases n with
    | zero => rfl
    | succ n =>
      simp only [List.drop_succ_cons, wcells, List.flatMap_cons, scell] at ih ⊢
      rw [ih, show 2 * (n + 1) = 2 * n + 1 + 1 by omega]
      rfl
theorem wcells_take (w : List Snd) (n : Nat) : wcells (w.take n) = (wcells w).take (2 * n) := by
  induction w generalizing n with
  | nil => simp [wcells]
  | cons s w ih =>
    cases n with
    | zero => rfl
    | succ n =>
      simp only [List.take_succ_cons, wcells, List.flatMap_cons, scell] at ih ⊢
      rw [ih, show 2 * (n + 1) = 2 * n + 1 + 1 by omega]
      rfl
theorem WordAt.from {V : Mv} {x : WD} (h : WordAt V x.p x.w) (hl : x.w.length ≤ x.cap) (n : Nat) : WordAt V (x.from n).p (x.from n).w := by
  simp only [WD.from]
  by_cases e : x.cap = n
  · rw [List.drop_of_length_le (by omega)]; exact fun i y hy => by simp [wcells] at hy
  · rw [if_neg e]
    intro i y hy
    rw [wcells_drop, List.getElem?_drop] at hy
    obtain ⟨b, o, h1, h2⟩ := h _ _ hy
    refine ⟨b, o + 2 * n, by rw [h1, Option.map_some, addr_add], ?_⟩
    rw [← h2]; congr 1; omega
theorem WordAt.upto {V : Mv} {x : WD} (h : WordAt V x.p x.w) (n : Nat) : WordAt V (x.upto n).p (x.upto n).w := fun i y hy => by
  simp only [WD.upto, wcells_take] at hy
  rw [List.getElem?_take] at hy
  split at hy
  · exact h i y hy
  · cases hy
theorem den_from {L : List Nat} {ρ : Env} {i : Nat} {C N Ln : IT} {x : WD} {n : Nat} (hp : ρ.ptr i = x.p) (hC : C.eval ρ = (x.cap : Int)) (hN : N.eval ρ = (n : Int)) (hL : Ln.eval ρ = (x.w.length : Int)) : (SV.sl i (.ifeq C N (.lit 0) (.off N 2 (.lit 0))) (.dif Ln N) (.dif C N)).den L ρ = (x.from n).v := by
  simp only [SV.den, IT.eval, hC, hN, hL, WD.v, WD.from, slv_eq, atAddr, hp, List.length_drop]
  rw [show ((x.w.length : Int) - n).toNat = x.w.length - n by omega, show ((x.cap : Int) - n).toNat = x.cap - n by omega]
  congr 1
  by_cases e : x.cap = n
  · rw [if_pos (by omega), if_pos e]
    cases x.p <;> simp [addr_zero]
  · rw [if_neg (by omega), if_neg e, show ((0 : Int) + n * ((2 : Nat) : Int)).toNat = 2 * n by omega]
theorem den_upto {L : List Nat} {ρ : Env} {i : Nat} {C N : IT} {x : WD} {n : Nat} (hp : ρ.ptr i = x.p) (hC : C.eval ρ = (x.cap : Int)) (hN : N.eval ρ = (n : Int)) (hn : n ≤ x.w.length) : (SV.sl i (.ifeq C (.lit 0) (.lit 0) (.lit 0)) N C).den L ρ = (x.upto n).v := by
  simp only [SV.den, IT.eval, hC, hN, WD.v, WD.upto, slv_eq, atAddr, hp, ite_self, List.length_take]
  rw [show ((n : Int)).toNat = min n x.w.length by omega, show ((x.cap : Int)).toNat = x.cap by omega]
  congr 1
  cases x.p <;> simp [addr_zero]
/-! The order of words. -/
def ordS (s t : Snd) : Int := if s.1 < t.1 then -1 else if t.1 < s.1 then 1 else if s.2 < t.2 then -1 else if t.2 < s.2 then 1 else 0
def ordW : List Snd → List Snd → Int
  | [], [] => 0
  | [], _ :: _ => -1
  | _ :: _, [] => 1
  | s :: a, t :: b => if ordS s t ≠ 0 then ordS s t else ordW a b
theorem ordS_zero {s t : Snd} : ordS s t = 0 ↔ s = t := by
  unfold ordS
  constructor
  · intro h
    split at h
    · omega
    · split at h
      · omega
      · split at h
        · omega
        · split at h
          · omega
          · exact Prod.ext (by omega) (by omega)
  · rintro rfl; simp
theorem ordW_drop {a b : List Snd} {j : Nat} (ha : j < a.length) (hb : j < b.length) : ordW (a.drop j) (b.drop j) = if ordS a[j] b[j] ≠ 0 then ordS a[j] b[j] else ordW (a.drop (j + 1)) (b.drop (j + 1)) := by
  rw [List.drop_eq_getElem_cons ha, List.drop_eq_getElem_cons hb, ordW]
theorem ordW_end {a b : List Snd} {j : Nat} (h : a.length ≤ j ∨ b.length ≤ j) (ha : j ≤ a.length) (hb : j ≤ b.length) : ordW (a.drop j) (b.drop j) = if a.length < b.length then -1 else if b.length < a.length then 1 else 0 := by
  rcases Nat.lt_or_ge j a.length with h1 | h1 <;> rcases Nat.lt_or_ge j b.length with h2 | h2
  · omega
  · rw [List.drop_eq_getElem_cons h1, List.drop_of_length_le h2, ordW, if_neg (by omega), if_pos (by omega)]
  · rw [List.drop_eq_getElem_cons h2, List.drop_of_length_le h1, ordW, if_pos (by omega)]
  · rw [List.drop_of_length_le h1, List.drop_of_length_le h2, ordW, if_neg (by omega), if_neg (by omega)]
/-- How much two words have in common at the beginning. -/
def cpl : List Snd → List Snd → Nat
  | x :: a, y :: b => if x = y then 1 + cpl a b else 0
  | _, _ => 0
theorem cpl_le (a b : List Snd) : cpl a b ≤ a.length ∧ cpl a b ≤ b.length := by
  induction a generalizing b with
  | nil => simp [cpl]
  | cons x a ih =>
    cases b with
    | nil => simp [cpl]
    | cons y b =>
      have := ih b
      unfold cpl
      split
      · simp; omega
      · simp
theorem cpl_drop {a b : List Snd} {j : Nat} (ha : j < a.length) (hb : j < b.length) : cpl (a.drop j) (b.drop j) = if a[j] = b[j] then 1 + cpl (a.drop (j + 1)) (b.drop (j + 1)) else 0 := by
  rw [List.drop_eq_getElem_cons ha, List.drop_eq_getElem_cons hb, cpl]
theorem cpl_end {a b : List Snd} {j : Nat} (h : a.length ≤ j ∨ b.length ≤ j) : cpl (a.drop j) (b.drop j) = 0 := by
  rcases h with h | h
  · rw [List.drop_of_length_le h]; simp [cpl]
  · rw [List.drop_of_length_le h]; cases a.drop j <;> rfl
end Go.Sy
/- Words: equality, copies, what two have in common, their order. -/
namespace Go.Proofs.YtpbbnmjkbfbelaaDoor
open Go Go.Sy Go.RowKit
theorem el22 : El Tryd.prog 22 31 2 8 := El.of (by kernel_rfl)
theorem c_slEqual (p q : Option Addr) (ca cb : Nat) (a b : List Snd) (hla : a.length < 2 ^ 62) : RetP Tryd.prog n_slices_Equal___api_Sound_api_Sound_ [slv p a.length ca, slv q b.length cb] (fun R => WordAt R p a ∧ WordAt R q b) (.bool (decide (a = b))) := by
  refine Fn.of S_slices_Equal___api_Sound_api_Sound_ mx [.p p, .i a.length, .i ca, .p q, .i b.length, .i cb] rfl rfl fun c hp => .chk (by ((try simp only [evE, liE, letsOf, letU, snd]); (try simp only [cmE])); omega) (.chk (by ((try simp only [evE, liE, letsOf, letU, snd]); (try simp only [cmE])); omega) (.ite (fun h1 => .ret rfl ?_) (fun h1 => .chk (by ((try simp only [evE, liE, letsOf, letU, snd]); (try simp only [cmE])); omega) ?_))) <;> ((try simp only [evE, liE, letsOf, letU, snd] at h1); (try simp only [cmE] at h1))
  · have : ¬ a = b := fun e => by rw [e] at h1; simp at h1
    ((try simp only [evE, liE, letsOf, letU, snd]); (try simp only [cmE])); simp [this]
  have hl : a.length = b.length := by omega
  refine .loop (fun n us _ => ∃ (r : Bool) (j : Nat), us = [.b r, .i j] ∧ n + j = a.length ∧ a.take j = b.take j) a.length ⟨false, 0, rfl, rfl, rfl⟩ ?_
  rintro n _ m _ ⟨r, j, rfl, hn, ht⟩
  refine .ite (fun h2 => ?_) (fun h2 => .ret rfl ?_) <;> ((try simp only [evE, liE, letsOf, letU, snd] at h2); (try simp only [cmE] at h2))
  · have ha : j < a.length := by omega
    have hb : j < b.length := by omega
    have hiff := take_succ_eq ha hb ht
    refine .loadW a j ha (fun g => hp.1.mono g.R) (.loadW b j hb (fun g => hp.2.mono g.R) (.ite (fun h3 => .ret rfl ?_) (fun h3 => .again rfl ⟨n - 1, by omega, r, j + 1, ?_, by omega, hiff.2 ?_⟩))) <;> ((try simp only [evE, liE, letsOf, letU, snd] at h3); (try simp only [cmE] at h3))
    · have : ¬ a = b := fun e => by subst e; simp at h3
      ((try simp only [evE, liE, letsOf, letU, snd]); (try simp only [cmE])); simp [this]
    · (simp only [evE, liE, letsOf, letU, snd, Sh.uss, Sh.us, atAddr, map_add0, List.append_nil]); rw [add_i64 j (by omega)]
    · exact snd_eq.1 h3
  · have := take_all hl (by rw [show a.length = j by omega]; exact ht)
    ((try simp only [evE, liE, letsOf, letU, snd]); (try simp only [cmE])); simp [this]
theorem c_wordEqual (p q : Option Addr) (ca cb : Nat) (a b : List Snd) (hla : a.length < 2 ^ 62) : RetP Tryd.prog n_word_Equal [slv p a.length ca, slv q b.length cb] (fun R => WordAt R p a ∧ WordAt R q b) (.bool (decide (a = b))) :=
  Fn.of S_word_Equal mx [.p p, .i a.length, .i ca, .p q, .i b.length, .i cb] rfl rfl fun c hp => .callV (c_slEqual p q ca cb a b hla) (fun g => ⟨hp.1.mono g.R, hp.2.mono g.R⟩) (.ret rfl rfl)
theorem c_refEqual (p q : Option Addr) (ca cb : Nat) (a b : List Snd) (hla : a.length < 2 ^ 62) : RetP Tryd.prog n_ref02_Equal [slv p a.length ca, slv q b.length cb] (fun R => WordAt R p a ∧ WordAt R q b) (.bool (decide (a = b))) := by
  refine Fn.of S_ref02_Equal mx [.p p, .i a.length, .i ca, .p q, .i b.length, .i cb] rfl rfl fun c hp => .chk (by ((try simp only [evE, liE, letsOf, letU, snd]); (try simp only [cmE])); omega) (.chk (by ((try simp only [evE, liE, letsOf, letU, snd]); (try simp only [cmE])); omega) (.ite (fun h1 => .ret rfl ?_) (fun h1 => ?_))) <;> ((try simp only [evE, liE, letsOf, letU, snd] at h1); (try simp only [cmE] at h1))
  · have : ¬ a = b := fun e => by rw [e] at h1; simp at h1
    ((try simp only [evE, liE, letsOf, letU, snd]); (try simp only [cmE])); simp [this]
  have hl : a.length = b.length := by omega
  refine .loop (fun n us _ => ∃ (r : Bool) (j : Nat), us = [.b r, .i j] ∧ n + j = a.length ∧ a.take j = b.take j) a.length ⟨false, 0, rfl, rfl, rfl⟩ ?_
  rintro n _ m _ ⟨r, j, rfl, hn, ht⟩
  refine .chk (by ((try simp only [evE, liE, letsOf, letU, snd]); (try simp only [cmE])); omega) (.ite (fun h2 => ?_) (fun h2 => .ret rfl ?_)) <;> ((try simp only [evE, liE, letsOf, letU, snd] at h2); (try simp only [cmE] at h2))
  · have ha : j < a.length := by omega
    have hb : j < b.length := by omega
    have hiff := take_succ_eq ha hb ht
    refine .loadW a j ha (fun g => hp.1.mono g.R) (.loadW b j hb (fun g => hp.2.mono g.R) (.ite (fun h3 => .ret rfl ?_) (fun h3 => .again rfl ⟨n - 1, by omega, r, j + 1, ?_, by omega, hiff.2 ?_⟩))) <;> ((try simp only [evE, liE, letsOf, letU, snd] at h3); (try simp only [cmE] at h3))
    · have : ¬ a = b := fun e => by subst e; simp at h3
      ((try simp only [evE, liE, letsOf, letU, snd]); (try simp only [cmE])); simp [this]
    · (simp only [evE, liE, letsOf, letU, snd, Sh.uss, Sh.us, atAddr, map_add0, List.append_nil]); rw [add_i64 j (by omega)]
    · exact snd_eq.1 h3
  · have := take_all hl (by rw [show a.length = j by omega]; exact ht)
    ((try simp only [evE, liE, letsOf, letU, snd]); (try simp only [cmE])); simp [this]
theorem c_refCopy (p : Option Addr) (ca : Nat) (a : List Snd) (hla : a.length < 2 ^ 40) : FnM Tryd.prog n_ref02_Copy [slv p a.length ca] (fun R => WordAt R p a) fun v mq _ => ∃ q cq, v = slv q a.length cq ∧ Row mq 31 2 q cq a.length (wcells a) := by
  refine FnM.of S_ref02_Copy mx [.p p, .i a.length, .i ca] rfl rfl fun c hp => ?_
  refine .loop (fun n us m => ∃ (j : Nat) (q : Option Addr) (cq : Nat), us = [.p q, .i j, .i cq, .i j] ∧ n + j = a.length ∧ Row m 31 2 q cq j (wcells (a.take j))) a.length ⟨0, none, 0, rfl, rfl, Row.nil _ _ _⟩ ?_
  rintro n _ m _ ⟨j, q, cq, rfl, hn, hrow⟩
  refine .chk (by ((try simp only [evE, liE, letsOf, letU, snd]); (try simp only [cmE])); omega) (.ite (fun h1 => ?_) (fun h1 => .ret rfl ⟨q, cq, ?_⟩)) <;> ((try simp only [evE, liE, letsOf, letU, snd] at h1); (try simp only [cmE] at h1))
  · have hj : j < a.length := by omega
    refine .loadW a j hj (fun g => hp.mono g.R) (.env (by (try simp only [liE, letsOf, letU, snd, List.append_nil]); rfl) (.alloc fun b0 => .append (q := q) (cap := cq) (n := j) (qx := some ⟨b0, 0, none⟩) (kx := 1) (capx := 1) (news := wcells [a[j]]) el22 hrow (fun g => g.cells (j := 0) rfl rfl rfl) (by simp [wcells, scell]) (wcells_one _) (fun h => by cases h) (by simp [maxLen]; omega) (by omega) (fun q' cq' m' hr' _ _ => .again rfl ⟨n - 1, by omega, j + 1, q', cq', ?_, by omega, ?_⟩)))
    · (simp only [evE, liE, letsOf, letU, snd, Sh.uss, Sh.us, atAddr, map_add0, List.append_nil]); rw [add_i64 j (by omega)]
    · rw [List.take_succ_eq_append_getElem hj, wcells_append]; exact hr'
  · rw [show j = a.length by omega, List.take_of_length_le (Nat.le_refl _)] at hrow
    exact ⟨by rw [show j = a.length by omega]; rfl, hrow⟩
theorem c_common (p q : Option Addr) (ca cb : Nat) (a b : List Snd) (hla : a.length < 2 ^ 40) (hlb : b.length < 2 ^ 40) : FnM Tryd.prog n_word_Common [slv p a.length ca, slv q b.length cb] (fun R => WordAt R p a ∧ WordAt R q b) fun v _ _ => ∃ k : Nat, v = .tuple #[.int .i64 (cpl a b : Nat), .int .i64 (k : Nat)] := by
  refine FnM.of S_word_Common mx [.p p, .i a.length, .i ca, .p q, .i b.length, .i cb] rfl rfl fun c hp => .chk (by ((try simp only [evE, liE, letsOf, letU, snd]); (try simp only [cmE])); omega) (.chk (by ((try simp only [evE, liE, letsOf, letU, snd]); (try simp only [cmE])); omega) ?_)
  have hmn : ∀ x : Int, (if ((b.length : Int)) < (a.length : Int) then (b.length : Int) else (a.length : Int)) = (min a.length b.length : Nat) := fun _ => by split <;> omega
  refine .loop (fun n us _ => ∃ j : Nat, us = [.i j] ∧ n + j = min a.length b.length ∧ cpl a b = j + cpl (a.drop j) (b.drop j)) (min a.length b.length) ⟨0, rfl, rfl, by simp⟩ ?_
  rintro n _ m _ ⟨j, rfl, hn, hc⟩
  refine .join (fun us mm => m = mm ∧ ∃ x : Bool, us = [.b x] ∧ (x = true ↔ ∃ (ha : j < a.length) (hb : j < b.length), a[j] = b[j])) (.ite (fun h1 => ?_) (fun h1 => .again rfl ⟨rfl, false, rfl, ?_⟩)) ?_
  · replace h1 : cm .lss (j : Int) (if ((b.length : Int)) < (a.length : Int) then (b.length : Int) else (a.length : Int)) = true := h1
    rw [hmn 0] at h1
    simp only [cm, decide_eq_true_eq] at h1
    have ha : j < a.length := by omega
    have hb : j < b.length := by omega
    refine .loadW a j ha (fun g => hp.1.mono g.R) (.loadW b j hb (fun g => hp.2.mono g.R) (.again rfl ⟨rfl, (bif cm .eql (a[j].1 : Int) (b[j].1 : Int) then cm .eql (a[j].2 : Int) (b[j].2 : Int) else false), rfl, ?_⟩))
    rw [pick_and]
    simp only [cm, Bool.and_eq_true, beq_iff_eq, ha, hb, exists_true_left]
    exact snd_eq
  · replace h1 : cm .lss (j : Int) (if ((b.length : Int)) < (a.length : Int) then (b.length : Int) else (a.length : Int)) = false := h1
    rw [hmn 0] at h1
    simp only [cm, decide_eq_false_iff_not] at h1
    simp only [Bool.false_eq_true, false_iff]
    rintro ⟨ha, hb, _⟩; omega
  rintro _ _ _ ⟨rfl, x, rfl, hx⟩
  refine .env (by (try simp only [liE, letsOf, letU, snd, List.append_nil]); rfl) (.ite (fun h1 => .again rfl ⟨n - 1, ?_, j + 1, ?_, ?_, ?_⟩) (fun h1 => ?_))
  · obtain ⟨ha, hb, _⟩ := hx.1 h1; omega
  · obtain ⟨ha, hb, _⟩ := hx.1 h1
    (simp only [evE, liE, letsOf, letU, snd, Sh.uss, Sh.us, atAddr, map_add0, List.append_nil]); rw [add_i64 j (by omega)]
  · obtain ⟨ha, hb, _⟩ := hx.1 h1; omega
  · obtain ⟨ha, hb, e⟩ := hx.1 h1
    rw [hc, cpl_drop ha hb, if_pos e]; omega
  · replace h1 : x = false := h1
    subst h1
    have hc' : cpl a b = j := by
      rw [hc]
      rcases Nat.lt_or_ge j a.length with ha | ha
      · rcases Nat.lt_or_ge j b.length with hb | hb
        · rw [cpl_drop ha hb, if_neg fun e => by cases hx.2 ⟨ha, hb, e⟩]; omega
        · rw [cpl_end (.inr hb)]; omega
      · rw [cpl_end (.inl ha)]; omega
    rw [hc']
    refine .loop (fun n us _ => ∃ k : Nat, us = [.i k] ∧ n + (j + k) = min a.length b.length) (min a.length b.length - j) ⟨0, rfl, by omega⟩ ?_
    rintro n2 _ m2 _ ⟨k, rfl, hn2⟩
    have ejk : ar .add .i64 (j : Int) (k : Int) = ((j + k : Nat) : Int) := by rw [addI (by omega) (by omega)]; omega
    have sub : ∀ l : List Snd, l.length < 2 ^ 40 → j + k < l.length → ar .sub .i64 (ar .sub .i64 (l.length : Int) 1) (k : Int) = ((l.length - 1 - k : Nat) : Int) := fun l h1 h2 => by
      rw [show ar .sub .i64 (l.length : Int) 1 = (l.length : Int) - 1 from subI (by omega) (by omega), subI (by omega) (by omega)]; omega
    refine .env (by (try simp only [liE, letsOf, letU, snd, List.append_nil]); rfl) (.join (fun us mm => m2 = mm ∧ ∃ x : Bool, us = [.b x] ∧ (x = true → j + k < min a.length b.length)) (.ite (fun h2 => ?_) (fun h2 => .again rfl ⟨rfl, false, rfl, fun h => by cases h⟩)) ?_)
    · replace h2 : cm .lss (ar .add .i64 (j : Int) (k : Int)) (if ((b.length : Int)) < (a.length : Int) then (b.length : Int) else (a.length : Int)) = true := h2
      rw [hmn 0, ejk] at h2
      simp only [cm, decide_eq_true_eq] at h2
      refine .chk (by ((try simp only [evE, liE, letsOf, letU, snd]); (try simp only [cmE])); omega) (.loadW a (a.length - 1 - k) (by omega) (fun g => hp.1.mono g.R) (.env (by (try simp only [liE, letsOf, letU, snd, List.append_nil]); rfl) (.chk (by ((try simp only [evE, liE, letsOf, letU, snd]); (try simp only [cmE])); omega) (.loadW b (b.length - 1 - k) (by omega) (fun g => hp.2.mono g.R) (.again rfl ⟨rfl, _, rfl, fun _ => by omega⟩) (by show ar .sub .i64 (ar .sub .i64 (b.length : Int) 1) (k : Int) = _; exact sub b hlb (by omega)) rfl))) (by show ar .sub .i64 (ar .sub .i64 (a.length : Int) 1) (k : Int) = _; exact sub a hla (by omega)) rfl)
    rintro _ _ _ ⟨rfl, x, rfl, hx⟩
    refine .env (by (try simp only [liE, letsOf, letU, snd, List.append_nil]); rfl) (.ite (fun h1 => .again rfl ⟨n2 - 1, ?_, k + 1, ?_, ?_⟩) (fun h1 => .ret rfl ⟨k, rfl⟩))
    · have := hx h1; omega
    · have := hx h1
      (simp only [evE, liE, letsOf, letU, snd, Sh.uss, Sh.us, atAddr, map_add0, List.append_nil]); rw [add_i64 k (by omega)]
    · have := hx h1; omega
theorem c_isNaN (x : Int) : Ret Tryd.prog n_cmp_isNaN_uint32_ [.int .u32 x] (.bool false) := Fn.of S_cmp_isNaN_uint32_ mx [.i x] rfl rfl fun c _ => .ret rfl (by show Value.bool (x != x) = _; simp)
theorem c_cmp32 (x y : Nat) : Ret Tryd.prog n_cmp_Compare_uint32_ [.int .u32 x, .int .u32 y] (.int .i64 (if x < y then -1 else if y < x then 1 else 0)) := by
  refine Fn.of S_cmp_Compare_uint32_ mx [.i x, .i y] rfl rfl fun c _ => .callV (c_isNaN _) (fun _ => trivial) (.callV (c_isNaN _) (fun _ => trivial) (.no rfl (.no rfl (.ite (fun h => .ret rfl ?_) (fun h => .ite (fun h4 => .ret rfl ?_) (fun h4 => .ret rfl ?_)))))) <;> ((try simp only [evE, liE, letsOf, letU, snd] at h); (try simp only [cmE] at h))
  · rw [if_pos (by omega)]; rfl
  · ((try simp only [evE, liE, letsOf, letU, snd] at h4); (try simp only [cmE] at h4)); rw [if_neg (by omega), if_pos (by omega)]; rfl
  · ((try simp only [evE, liE, letsOf, letU, snd] at h4); (try simp only [cmE] at h4)); rw [if_neg (by omega), if_neg (by omega)]; rfl
theorem c_or2 (p : Option Addr) (cap : Nat) (x y : Int) : RetP Tryd.prog n_cmp_Or_int_ [slv p 2 cap] (fun R => Cells R p [.int .i64 x, .int .i64 y]) (.int .i64 (if x ≠ 0 then x else y)) := by
  refine Fn.of S_cmp_Or_int_ mx [.p p, .i 2, .i cap] rfl rfl fun c hp => .chk rfl ?_
  refine .loop (fun n us _ => ∃ (e : Int) (j : Nat), us = [.i e, .i j] ∧ n + j = 2 ∧ (j ≠ 0 → x = 0) ∧ (j = 2 → y = 0)) 2 ⟨0, 0, rfl, rfl, fun h => absurd rfl h, fun h => by omega⟩ ?_
  rintro n _ m _ ⟨e, j, rfl, hn, h0, h1⟩
  refine .ite (fun h2 => ?_) (fun h2 => .ret rfl ?_) <;> ((try simp only [evE, liE, letsOf, letU, snd] at h2); (try simp only [cmE] at h2))
  · obtain rfl | rfl : j = 0 ∨ j = 1 := by omega
    · refine .elem1 (.int .i64 x) [.int .i64 x, .int .i64 y] 0 2 rfl rfl (by omega) (fun g => hp.mono g.R) rfl (.ite (fun h3 => .ret rfl ?_) (fun h3 => .again rfl ⟨1, by omega, e, 1, by (simp only [evE, liE, letsOf, letU, snd, Sh.uss, Sh.us, atAddr, map_add0, List.append_nil]); rfl, rfl, fun _ => ?_, fun h => by omega⟩)) <;> ((try simp only [evE, liE, letsOf, letU, snd] at h3); (try simp only [cmE] at h3))
      · rw [if_pos h3]; rfl
      · exact h3
    · have hx := h0 (by omega)
      refine .elem1 (.int .i64 y) [.int .i64 x, .int .i64 y] 1 2 rfl rfl (by omega) (fun g => hp.mono g.R) rfl (.ite (fun h3 => .ret rfl ?_) (fun h3 => .again rfl ⟨0, by omega, e, 2, by (simp only [evE, liE, letsOf, letU, snd, Sh.uss, Sh.us, atAddr, map_add0, List.append_nil]); rfl, rfl, fun _ => hx, fun _ => ?_⟩)) <;> ((try simp only [evE, liE, letsOf, letU, snd] at h3); (try simp only [cmE] at h3))
      · rw [if_neg (by simp [hx])]; rfl
      · exact h3
  · rw [if_neg (by simp [h0 (by omega)]), h1 (by omega)]; rfl
theorem c_wordorder (s t : Snd) : Ret Tryd.prog n_word_order [snd s, snd t] (.int .i64 (ordS s t)) := by
  refine Fn.of S_word_order mx [.i s.1, .i s.2, .i t.1, .i t.2] rfl rfl fun c _ => .alloc fun b0 => .alloc fun b1 => .callV (c_cmp32 s.1 t.1) (fun _ => trivial) (.callV (c_cmp32 s.2 t.2) (fun _ => trivial) (.alloc fun b2 => .env (by (try simp only [liE, letsOf, letU, snd, List.append_nil]); rfl) (.callV (c_or2 (some ⟨b2, 0, none⟩) 2 (if s.1 < t.1 then -1 else if t.1 < s.1 then 1 else 0) (if s.2 < t.2 then -1 else if t.2 < s.2 then 1 else 0)) (fun g => g.cells (j := 2) rfl rfl rfl) (.ret rfl ?_))))
  have e : ordS s t = if (if s.1 < t.1 then (-1 : Int) else if t.1 < s.1 then 1 else 0) ≠ 0 then (if s.1 < t.1 then -1 else if t.1 < s.1 then 1 else 0) else (if s.2 < t.2 then -1 else if t.2 < s.2 then 1 else 0) := by
    unfold ordS
    split
    · simp
    · split
      · simp
      · simp
  rw [e]; rfl
theorem ordS_range (s t : Snd) : ordS s t = -1 ∨ ordS s t = 0 ∨ ordS s t = 1 := by unfold ordS; split <;> (try split) <;> (try split) <;> (try split) <;> simp
theorem c_compareFunc (p q : Option Addr) (ca cb : Nat) (a b : List Snd) (hla : a.length < 2 ^ 40) (hlb : b.length < 2 ^ 40) : RetP Tryd.prog n_slices_CompareFunc___api_Sound___api_Sound_api_Sound_api_Sound_ [slv p a.length ca, slv q b.length cb, .func (.func n_word_order) #[] #[]] (fun R => WordAt R p a ∧ WordAt R q b) (.int .i64 (ordW a b)) := by
  refine Fn.of S_slices_CompareFunc___api_Sound___api_Sound_api_Sound_api_Sound_ mx [.p p, .i a.length, .i ca, .p q, .i b.length, .i cb, .v (.func (.func n_word_order) #[] #[])] rfl rfl fun c hp => .chk (by ((try simp only [evE, liE, letsOf, letU, snd]); (try simp only [cmE])); omega) ?_
  refine .loop (fun n us _ => ∃ (e : Int) (j : Nat), us = [.i e, .i j] ∧ n + j = a.length ∧ j ≤ b.length ∧ ordW a b = ordW (a.drop j) (b.drop j)) a.length ⟨0, 0, rfl, rfl, Nat.zero_le _, rfl⟩ ?_
  rintro n _ m _ ⟨e, j, rfl, hn, hjb, ho⟩
  refine .ite (fun h1 => ?_) (fun h1 => .chk (by ((try simp only [evE, liE, letsOf, letU, snd]); (try simp only [cmE])); omega) (.chk (by ((try simp only [evE, liE, letsOf, letU, snd]); (try simp only [cmE])); omega) (.ite (fun h2 => .ret rfl ?_) (fun h2 => .ret rfl ?_)))) <;> ((try simp only [evE, liE, letsOf, letU, snd] at h1); (try simp only [cmE] at h1))
  · have ha : j < a.length := by omega
    refine .loadW a j ha (fun g => hp.1.mono g.R) (.alloc fun _ => .chk (by ((try simp only [evE, liE, letsOf, letU, snd]); (try simp only [cmE])); omega) (.ite (fun h2 => .ret rfl ?_) (fun h2 => ?_))) <;> ((try simp only [evE, liE, letsOf, letU, snd] at h2); (try simp only [cmE] at h2))
    · rw [ho, ordW_end (.inr (by omega)) (by omega) hjb, if_neg (by omega), if_pos (by omega)]; rfl
    · have hb : j < b.length := by omega
      rw [ordW_drop ha hb] at ho
      refine .env (by (try simp only [liE, letsOf, letU, snd, List.append_nil]); rfl) (.loadW b j hb (fun g => hp.2.mono g.R) (.env (by (try simp only [liE, letsOf, letU, snd, List.append_nil]); rfl) (.alloc fun _ => .callvR (r := .int .i64 (ordS a[j] b[j])) (FnV.of0 (by kernel_rfl) (c_wordorder a[j] b[j])) (fun _ => trivial) (fun m' hm' => .env (by (try simp only [liE, letsOf, letU, snd, List.append_nil]); rfl) (.ite (fun h3 => .ret rfl ?_) (fun h3 => .again rfl ⟨n - 1, by omega, e, j + 1, ?_, by omega, by omega, ?_⟩))))))
      · ((try simp only [evE, liE, letsOf, letU, snd] at h3); (try simp only [cmE] at h3)); rw [ho, if_pos h3]; rfl
      · (simp only [evE, liE, letsOf, letU, snd, Sh.uss, Sh.us, atAddr, map_add0, List.append_nil]); rw [add_i64 j (by omega)]
      · ((try simp only [evE, liE, letsOf, letU, snd] at h3); (try simp only [cmE] at h3)); rw [ho, if_neg (by simp [h3])]
  · ((try simp only [evE, liE, letsOf, letU, snd] at h2); (try simp only [cmE] at h2)); rw [ho, ordW_end (.inl (by omega)) (by omega) hjb, if_pos (by omega)]; rfl
  · ((try simp only [evE, liE, letsOf, letU, snd] at h2); (try simp only [cmE] at h2)); rw [ho, ordW_end (.inl (by omega)) (by omega) hjb, if_neg (by omega), if_neg (by omega)]; rfl
theorem c_wordOrder (p q : Option Addr) (ca cb : Nat) (a b : List Snd) (hla : a.length < 2 ^ 40) (hlb : b.length < 2 ^ 40) : RetP Tryd.prog n_word_Order [slv p a.length ca, slv q b.length cb] (fun R => WordAt R p a ∧ WordAt R q b) (.int .i64 (ordW a b)) :=
  Fn.of S_word_Order mx [.p p, .i a.length, .i ca, .p q, .i b.length, .i cb] rfl rfl fun c hp => .callV (c_compareFunc p q ca cb a b hla hlb) (fun g => ⟨hp.1.mono g.R, hp.2.mono g.R⟩) (.ret rfl rfl)
end Go.Proofs.YtpbbnmjkbfbelaaDoor
/- Chapter 30: checks of models and words; Grow, Concat; the two kinds of changes. -/
namespace Go.Sy
open Go Go.RowKit
/-- A model. -/
structure MD where
  a : WD
  b : WD
def mcells (l : List MD) : List Value := l.flatMap fun m => [m.a.v, m.b.v]
def ModelsAt (R : Mv) (q : Option Addr) (l : List MD) : Prop := Cells R q (mcells l) ∧ ∀ x ∈ l, WordAt R x.a.p x.a.w ∧ WordAt R x.b.p x.b.w
theorem ModelsAt.mono {R S : Mv} {q : Option Addr} {l : List MD} (h : ModelsAt R q l) (hle : R.le S) : ModelsAt S q l := ⟨h.1.mono hle, fun x hx => ⟨(h.2 x hx).1.mono hle, (h.2 x hx).2.mono hle⟩⟩
def ModelsOk (l : List MD) : Prop := ∀ x ∈ l, Wok x.a.w ∧ Wok x.b.w ∧ x.a.ok ∧ x.b.ok
theorem mcells_len (l : List MD) : (mcells l).length = l.length * 2 := by
  induction l with
  | nil => rfl
  | cons s w ih => simp only [mcells, List.flatMap_cons, List.length_append, List.length_cons] at *; rw [ih]; simp; omega
theorem mcells_at (w : List MD) (j : Nat) (h : j < w.length) : (mcells w)[j * 2]? = some w[j].a.v ∧ (mcells w)[j * 2 + 1]? = some w[j].b.v := by
  induction w generalizing j with
  | nil => simp at h
  | cons s w ih =>
    cases j with
    | zero => exact ⟨rfl, rfl⟩
    | succ j =>
      have := ih j (by simpa using h)
      simp only [mcells, List.flatMap_cons, List.cons_append, List.nil_append] at *
      rw [show (j + 1) * 2 = j * 2 + 2 by omega, show j * 2 + 2 + 1 = (j * 2 + 1) + 2 by omega]
      simpa using this
section
variable {P : Program} {c : Cx} {L : List Nat} {ρ : Env} {blks : List Blk} {m : Mem} {R : Value → HW → Prop} {Dn : Nat → List U → HW → Prop} {A : List (List U → HW → Prop)}
theorem sl_at (ρ : Env) (L : List Nat) (q : Option Addr) (n cap : Nat) (us : List U) : (Sh.sl.fresh ρ.length).1.den L (ρ ++ (.p q :: .i n :: .i cap :: us)) = slv q n cap := by
  have e0 := getElem_env ρ (.p q :: .i n :: .i cap :: us) 0
  have e1 := getElem_env ρ (.p q :: .i n :: .i cap :: us) 1
  have e2 := getElem_env ρ (.p q :: .i n :: .i cap :: us) 2
  rw [Nat.add_zero] at e0
  simp only [Sh.fresh, SV.den, IT.eval, atAddr, Env.ptr, Env.int]
  rw [e0, e1, e2]
  simp only [List.getElem?_cons_zero, List.getElem?_cons_succ, slv]
  cases q <;> simp [addr_zero]
theorem DenM.loadMD {i : Nat} {I len : IT} {k : Tree} (l : List MD) (j : Nat) (hj : j < l.length) (hw : Good c L m → Cells (vw c L ρ blks m) (ρ.ptr i) (mcells l)) (hk : DenM P R Dn k L (ρ ++ [.p l[j].a.p, .i l[j].a.w.length, .i l[j].a.cap, .p l[j].b.p, .i l[j].b.w.length, .i l[j].b.cap]) c m A) (hI : I.eval ρ = (j : Int) := by rfl) (hn : len.eval ρ = (l.length : Int) := by rfl) :
    DenM P R Dn (.chk (.pick (.cmp .geq I (.lit 0)) (.pick (.cmp .lss I len) (.some i) (.lit false)) (.lit false)) (.load i (.off I 2 (.lit 0)) [.sl, .sl] blks k)) L ρ c m A := by
  have h := mcells_at l j hj
  refine .elem [.p l[j].a.p, .i l[j].a.w.length, .i l[j].a.cap, .p l[j].b.p, .i l[j].b.w.length, .i l[j].b.cap] (mcells l) j l.length hI hn hj rfl hw (by rw [mcells_len]; omega) (fun q v hv => ?_) hk
  have d0 : (SV.dens L (ρ ++ [.p l[j].a.p, .i l[j].a.w.length, .i l[j].a.cap, .p l[j].b.p, .i l[j].b.w.length, .i l[j].b.cap]) (Sh.freshs [.sl, .sl] ρ.length).1) = [l[j].a.v, l[j].b.v] := by
    have e1 := sl_at ρ L l[j].a.p l[j].a.w.length l[j].a.cap [.p l[j].b.p, .i l[j].b.w.length, .i l[j].b.cap]
    have e2 := sl_at (ρ ++ [.p l[j].a.p, .i l[j].a.w.length, .i l[j].a.cap]) L l[j].b.p l[j].b.w.length l[j].b.cap []
    rw [List.append_assoc] at e2
    simp only [List.cons_append, List.nil_append, List.length_append, List.length_cons, List.length_nil] at e2
    simp only [Sh.freshs, Sh.fresh, SV.dens] at e1 e2 ⊢
    rw [e1, e2]; rfl
  rw [d0] at hv
  match q, hv with
  | 0, hv => simp at hv; rw [← hv]; exact h.1
  | 1, hv => simp at hv; rw [← hv]; exact h.2
  | q + 2, hv => simp at hv
/-- The empty code at a place that is never reached. -/
theorem DenM.never {t : Tree} (h : Good c L m → False) : DenM P R Dn t L ρ c m A := fun g => (h g).elim
end
theorem checkL_append (a b : List (List Snd)) : checkL (a ++ b) = if checkL a ≠ 0 then checkL a else checkL b := by
  induction a with
  | nil => simp [checkL]
  | cons w a ih =>
    by_cases h : checkW w = 0
    · have e1 : checkL (w :: (a ++ b)) = checkL (a ++ b) := by rw [checkL, if_neg (by simp [h])]
      have e2 : checkL (w :: a) = checkL a := by rw [checkL, if_neg (by simp [h])]
      simp only [List.cons_append, e1, e2, ih]
    · have e1 : checkL (w :: (a ++ b)) = checkW w := by rw [checkL, if_pos h]
      have e2 : checkL (w :: a) = checkW w := by rw [checkL, if_pos h]
      simp only [List.cons_append, e1, e2]
      rw [if_pos h]
def mwords (l : List MD) : List (List Snd) := l.flatMap fun m => [m.a.w, m.b.w]
/-- The first error of models and words. -/
def chkM (ms : List MD) (l : List (List Snd)) : Int := if ms.length > 256 then 12 else checkL (mwords ms ++ l)
theorem checkL_take {l : List (List Snd)} {j : Nat} (hj : j ≤ l.length) (h : checkL (l.take j) = 0) : checkL l = checkL (l.drop j) := by
  conv => lhs; rw [← List.take_append_drop j l, checkL_append, if_neg (by simp [h])]
theorem checkL_snoc {l : List (List Snd)} {j : Nat} (hj : j < l.length) (h : checkL (l.take j) = 0) (hw : checkW l[j] = 0) : checkL (l.take (j + 1)) = 0 := by
  rw [List.take_succ_eq_append_getElem hj, checkL_append, if_neg (by simp [h])]
  simp [checkL, hw]
theorem mwords_take (ms : List MD) (j : Nat) : (mwords ms).take (2 * j) = mwords (ms.take j) := by
  induction ms generalizing j with
  | nil => simp [mwords]
  | cons s w ih =>
    cases j with
    | zero => rfl
    | succ j =>
      simp only [List.take_succ_cons, mwords, List.flatMap_cons] at ih ⊢
      rw [← ih, show 2 * (j + 1) = 2 * j + 1 + 1 by omega]
      rfl
theorem mwords_snoc {ms : List MD} {j : Nat} (hj : j < ms.length) : mwords (ms.take (j + 1)) = mwords (ms.take j) ++ [ms[j].a.w, ms[j].b.w] := by
  unfold mwords
  rw [List.take_succ_eq_append_getElem hj, List.flatMap_append]; simp
theorem mwords_split {ms : List MD} {j : Nat} (hj : j < ms.length) : mwords ms = mwords (ms.take j) ++ ([ms[j].a.w, ms[j].b.w] ++ mwords (ms.drop (j + 1))) := by
  unfold mwords
  conv => lhs; rw [← List.take_append_drop j ms, List.drop_eq_getElem_cons hj]
  rw [List.flatMap_append, List.flatMap_cons]
theorem chk_model {ms : List MD} {j : Nat} {l : List (List Snd)} (hj : j < ms.length) (hc : checkL (mwords (ms.take j)) = 0) (h3 : checkL [ms[j].a.w, ms[j].b.w] ≠ 0) : checkL (mwords ms ++ l) = checkL [ms[j].a.w, ms[j].b.w] := by
  rw [mwords_split hj, List.append_assoc, checkL_append, if_neg (by simp [hc]), List.append_assoc, checkL_append, if_pos h3]
end Go.Sy
namespace Go.Proofs.YtpbbnmjkbfbelaaDoor
open Go Go.Sy Go.RowKit
theorem c_check0 (q : Option Addr) (cq : Nat) (l : List WD) (h : ∀ x ∈ l, Wok x.w) (hl : l.length < 2 ^ 62) : RetP Tryd.prog n_analogy_check [slv none 0 0, slv q l.length cq] (fun R => WordsAt R q l) (.int .i64 (checkL (l.map (·.w)))) := by
  refine Fn.of S_analogy_check mx [.p none, .i 0, .i 0, .p q, .i l.length, .i cq] rfl rfl fun c hp => .chk rfl (.no rfl (.chk rfl ?_))
  refine .loop (fun n us mm => us = [.i 0, .i 0]) 0 rfl ?_
  rintro n _ m _ rfl
  refine .no rfl (.chk (by ((try simp only [evE, liE, letsOf, letU, snd]); (try simp only [cmE])); omega) ?_)
  refine .loop (fun n us _ => ∃ (e : Int) (j : Nat), us = [.i e, .i j] ∧ n + j = l.length ∧ checkL ((l.map (·.w)).take j) = 0) l.length ⟨0, 0, rfl, rfl, rfl⟩ ?_
  rintro n _ m _ ⟨e, j, rfl, hn, hc⟩
  refine .env (by (try simp only [liE, letsOf, letU, snd, List.append_nil]); rfl) (.ite (fun h1 => ?_) (fun h1 => .ret rfl ?_)) <;> ((try simp only [evE, liE, letsOf, letU, snd] at h1); (try simp only [cmE] at h1))
  · have hj : j < l.length := by omega
    refine .loadWD l j hj (fun g => hp.1.mono g.R) (.env (by (try simp only [liE, letsOf, letU, snd, List.append_nil]); rfl) (.callV (c_wordCheck l[j].p l[j].cap l[j].w (h _ (List.getElem_mem hj))) (fun g => (hp.2 _ (List.getElem_mem hj)).mono g.R) (.env (by (try simp only [liE, letsOf, letU, snd, List.append_nil]); rfl) (.ite (fun h2 => .ret rfl ?_) (fun h2 => .again rfl ⟨n - 1, by omega, e, j + 1, ?_, by omega, ?_⟩))))) <;> ((try simp only [evE, liE, letsOf, letU, snd] at h2); (try simp only [cmE] at h2))
    · rw [checkL_take (j := j) (by simp; omega) hc, List.drop_eq_getElem_cons (by simpa using hj), checkL, if_pos (by simpa using h2)]; simp; rfl
    · (simp only [evE, liE, letsOf, letU, snd, Sh.uss, Sh.us, atAddr, map_add0, List.append_nil]); rw [add_i64 j (by omega)]
    · exact checkL_snoc (by simpa using hj) hc (by simpa using h2)
  · rw [List.take_of_length_le (by simp; omega)] at hc
    rw [hc]; rfl
theorem c_check (p : Option Addr) (cp : Nat) (ms : List MD) (q : Option Addr) (cq : Nat) (l : List WD) (hm : ModelsOk ms) (h : ∀ x ∈ l, Wok x.w) (hl : l.length < 2 ^ 62) : RetP Tryd.prog n_analogy_check [slv p ms.length cp, slv q l.length cq] (fun R => ModelsAt R p ms ∧ WordsAt R q l) (.int .i64 (chkM ms (l.map (·.w)))) := by
  refine Fn.of S_analogy_check mx [.p p, .i ms.length, .i cp, .p q, .i l.length, .i cq] rfl rfl fun c hp => .chk (by ((try simp only [evE, liE, letsOf, letU, snd]); (try simp only [cmE])); omega) (.ite (fun h1 => .ret rfl ?_) (fun h1 => .chk (by ((try simp only [evE, liE, letsOf, letU, snd]); (try simp only [cmE])); omega) ?_)) <;> ((try simp only [evE, liE, letsOf, letU, snd] at h1); (try simp only [cmE] at h1))
  · have : chkM ms (l.map (·.w)) = 12 := by unfold chkM; rw [if_pos (by omega)]
    rw [this]; rfl
  have hs : chkM ms (l.map (·.w)) = checkL (mwords ms ++ l.map (·.w)) := by unfold chkM; rw [if_neg (by omega)]
  rw [hs]
  refine .loop (fun n us _ => ∃ (e : Int) (j : Nat), us = [.i e, .i j] ∧ n + j = ms.length ∧ checkL (mwords (ms.take j)) = 0) ms.length ⟨0, 0, rfl, rfl, rfl⟩ ?_
  rintro n _ m _ ⟨e, j, rfl, hn, hc⟩
  refine .env (by (try simp only [liE, letsOf, letU, snd, List.append_nil]); rfl) (.ite (fun h2 => ?_) (fun h2 => .chk (by ((try simp only [evE, liE, letsOf, letU, snd]); (try simp only [cmE])); omega) ?_)) <;> ((try simp only [evE, liE, letsOf, letU, snd] at h2); (try simp only [cmE] at h2))
  · have hj : j < ms.length := by omega
    have hok := hm _ (List.getElem_mem hj)
    have hat := hp.1.2 _ (List.getElem_mem hj)
    refine .loadMD ms j hj (fun g => hp.1.1.mono g.R) (.env (by (try simp only [liE, letsOf, letU, snd, List.append_nil]); rfl) (.alloc fun b0 => .alloc fun b1 => .callV (c_check0 (some ⟨b1, 0, none⟩) 2 [ms[j].a, ms[j].b] (by simp [hok.1, hok.2.1]) (by simp)) (fun g => ⟨g.cells (j := 1) rfl rfl rfl, ?_⟩) (.env (by (try simp only [liE, letsOf, letU, snd, List.append_nil]); rfl) (.ite (fun h3 => .ret rfl ?_) (fun h3 => .again rfl ⟨n - 1, by omega, e, j + 1, ?_, by omega, ?_⟩)))))
    · simp only [List.mem_cons, List.not_mem_nil, or_false]
      rintro x (rfl | rfl)
      · exact hat.1.mono g.R
      · exact hat.2.mono g.R
    · ((try simp only [evE, liE, letsOf, letU, snd] at h3); (try simp only [cmE] at h3))
      replace h3 : checkL [ms[j].a.w, ms[j].b.w] ≠ 0 := h3
      rw [chk_model hj hc h3]; rfl
    · (simp only [evE, liE, letsOf, letU, snd, Sh.uss, Sh.us, atAddr, map_add0, List.append_nil]); rw [add_i64 j (by omega)]
    · ((try simp only [evE, liE, letsOf, letU, snd] at h3); (try simp only [cmE] at h3))
      replace h3 : checkL [ms[j].a.w, ms[j].b.w] = 0 := h3
      rw [mwords_snoc hj, checkL_append, if_neg (by simp [hc])]; exact h3
  · rw [List.take_of_length_le (by omega)] at hc
    refine .loop (fun n us _ => ∃ (e : Int) (j : Nat), us = [.i e, .i j] ∧ n + j = l.length ∧ checkL ((l.map (·.w)).take j) = 0) l.length ⟨e, 0, rfl, rfl, rfl⟩ ?_
    rintro n _ m _ ⟨e, j, rfl, hn, hc2⟩
    refine .env (by (try simp only [liE, letsOf, letU, snd, List.append_nil]); rfl) (.ite (fun h1 => ?_) (fun h1 => .ret rfl ?_)) <;> ((try simp only [evE, liE, letsOf, letU, snd] at h1); (try simp only [cmE] at h1))
    · have hj : j < l.length := by omega
      refine .loadWD l j hj (fun g => hp.2.1.mono g.R) (.env (by (try simp only [liE, letsOf, letU, snd, List.append_nil]); rfl) (.callV (c_wordCheck l[j].p l[j].cap l[j].w (h _ (List.getElem_mem hj))) (fun g => (hp.2.2 _ (List.getElem_mem hj)).mono g.R) (.env (by (try simp only [liE, letsOf, letU, snd, List.append_nil]); rfl) (.ite (fun h2 => .ret rfl ?_) (fun h2 => .again rfl ⟨n - 1, by omega, e, j + 1, ?_, by omega, ?_⟩))))) <;> ((try simp only [evE, liE, letsOf, letU, snd] at h2); (try simp only [cmE] at h2))
      · rw [checkL_append, if_neg (by simp [hc]), checkL_take (j := j) (by simp; omega) hc2, List.drop_eq_getElem_cons (by simpa using hj), checkL, if_pos (by simpa using h2)]; simp; rfl
      · (simp only [evE, liE, letsOf, letU, snd, Sh.uss, Sh.us, atAddr, map_add0, List.append_nil]); rw [add_i64 j (by omega)]
      · exact checkL_snoc (by simpa using hj) hc2 (by simpa using h2)
    · rw [List.take_of_length_le (by simp; omega)] at hc2
      rw [checkL_append, if_neg (by simp [hc]), hc2]; rfl
theorem c_refWords (q : Option Addr) (cq : Nat) (l : List WD) (h : ∀ x ∈ l, Wok x.w) (hl : l.length < 2 ^ 62) : RetP Tryd.prog n_ref30_words [slv q l.length cq] (fun R => WordsAt R q l) (.int .i64 (checkL (l.map (·.w)))) := by
  refine Fn.of S_ref30_words mx [.p q, .i l.length, .i cq] rfl rfl fun c hp => ?_
  refine .loop (fun n us _ => ∃ (e : Int) (j : Nat), us = [.i e, .i j] ∧ n + j = l.length ∧ checkL ((l.map (·.w)).take j) = 0) l.length ⟨0, 0, rfl, rfl, rfl⟩ ?_
  rintro n _ m _ ⟨e, j, rfl, hn, hc⟩
  refine .env (by (try simp only [liE, letsOf, letU, snd, List.append_nil]); rfl) (.chk (by ((try simp only [evE, liE, letsOf, letU, snd]); (try simp only [cmE])); omega) (.ite (fun h1 => ?_) (fun h1 => .ret rfl ?_))) <;> ((try simp only [evE, liE, letsOf, letU, snd] at h1); (try simp only [cmE] at h1))
  · have hj : j < l.length := by omega
    refine .loadWD l j hj (fun g => hp.1.mono g.R) (.env (by (try simp only [liE, letsOf, letU, snd, List.append_nil]); rfl) (.callV (c_ref02Check l[j].p l[j].cap l[j].w (h _ (List.getElem_mem hj))) (fun g => (hp.2 _ (List.getElem_mem hj)).mono g.R) (.env (by (try simp only [liE, letsOf, letU, snd, List.append_nil]); rfl) (.ite (fun h2 => .ret rfl ?_) (fun h2 => .again rfl ⟨n - 1, by omega, e, j + 1, ?_, by omega, ?_⟩))))) <;> ((try simp only [evE, liE, letsOf, letU, snd] at h2); (try simp only [cmE] at h2))
    · rw [checkL_take (j := j) (by simp; omega) hc, List.drop_eq_getElem_cons (by simpa using hj), checkL, if_pos (by simpa using h2)]; simp; rfl
    · (simp only [evE, liE, letsOf, letU, snd, Sh.uss, Sh.us, atAddr, map_add0, List.append_nil]); rw [add_i64 j (by omega)]
    · exact checkL_snoc (by simpa using hj) hc (by simpa using h2)
  · rw [List.take_of_length_le (by simp; omega)] at hc
    rw [hc]; rfl
end Go.Proofs.YtpbbnmjkbfbelaaDoor
/- Chapter 30: the two kinds of changes. -/
namespace Go.Sy
open Go Go.RowKit
section
variable {P : Program} {c : Cx} {L : List Nat} {ρ : Env} {blks : List Blk} {m : Mem} {R : Value → HW → Prop} {Dn : Nat → List U → HW → Prop} {A : List (List U → HW → Prop)}
theorem DenM.loadS {i : Nat} {off : IT} {k : Tree} (xs : List Value) (j : Nat) (q : Option Addr) (kn cap : Nat) (ho : off.eval ρ = (j : Int)) (hx : xs[j]? = some (slv q kn cap)) (hw : Good c L m → Cells (vw c L ρ blks m) (ρ.ptr i) xs) (hk : DenM P R Dn k L (ρ ++ [.p q, .i kn, .i cap]) c m A) :
    DenM P R Dn (.load i off [.sl] blks k) L ρ c m A := by
  refine .loadC [.p q, .i kn, .i cap] (ρ.ptr i) xs j rfl ho rfl hw (List.getElem?_eq_some_iff.1 hx).1 (fun q' v hv => ?_) hk
  match q', hv with
  | 0, hv =>
    simp only [Sh.freshs, SV.dens] at hv
    rw [slv_fresh] at hv
    simp only [List.getElem?_cons_zero, Option.some.injEq] at hv
    rw [← hv]; exact hx
  | q' + 1, hv => simp [Sh.freshs, SV.dens] at hv
/-- A variable of the program's, of several cells. -/
theorem DenM.loadGl {t ty : TypeId} {d : TypeDesc} {b o : Nat} {shs : List Sh} {k : Tree} (us : List U) (vs : List Value) (hu : P.underlying t = some d) (hl : vs.length = sizeT P t) (ha : isAggT P t = true) (hc : Good c L m → ∀ (j : Nat) v, vs[j]? = some v → vw c L ρ blks m b (o + j) = some v) (hus : Sh.eats shs us = some []) (hv : ((Sh.agg shs).fresh ρ.length).1.den L (ρ ++ us) = .agg vs.toArray)
    (hk : DenM P R Dn k L (ρ ++ us) c m A) : DenM P R Dn (.extp ⟨.load t (.tmp 0), ty, [.cst (.pointer (some ⟨b, o, none⟩))]⟩ (.agg shs) blks k) L ρ c m A := .extp us (uOk_of (by simp only [Sh.eat]; exact hus)) (fun g w hw => by
  rw [hv]
  refine run_value ?_
  show (Instr.loadAt t (.pointer (some ⟨b, o, none⟩))).run P w = _
  simp only [Instr.loadAt, Instr.sureAddr, Sem.run_bind, Sem.run_pure, Result.andThen_ok]
  have := run_loadVar' (P := P) (t := t) (w := w) (b := b) (o := o) (vs := vs) hu hl (fun h => by rw [ha] at h; cases h) fun j v hj => vw_cell hw _ _ _ (hc g j v hj)
  rw [ha] at this
  simpa using this) hk
end
/-! What a change gives. -/
def applyE (x y c : List Snd) : Option (List Snd) := if x.length ≤ c.length ∧ c.drop (c.length - x.length) = x then some (c.take (c.length - x.length) ++ y) else none
def applyF (x y c : List Snd) : Option (List Snd) := if x.length ≤ c.length ∧ c.take x.length = x then some (y ++ c.drop x.length) else none
/-- How much two words have in common at the end. -/
def csl (a b : List Snd) : Nat := cpl a.reverse b.reverse
def solveW (a b c : List Snd) : Option (List Snd) := applyE (a.drop (cpl a b)) (b.drop (cpl a b)) c
def frontW (a b c : List Snd) : Option (List Snd) := applyF (a.take (a.length - csl a b)) (b.take (b.length - csl a b)) c
theorem csl_le (a b : List Snd) : csl a b ≤ a.length ∧ csl a b ≤ b.length := by
  have := cpl_le a.reverse b.reverse
  simpa [csl] using this
theorem csl_take {a b : List Snd} {i j : Nat} (ha : i < a.length) (hb : j < b.length) : csl (a.take (i + 1)) (b.take (j + 1)) = if a[i] = b[j] then 1 + csl (a.take i) (b.take j) else 0 := by
  unfold csl
  rw [List.take_succ_eq_append_getElem ha, List.take_succ_eq_append_getElem hb, List.reverse_append, List.reverse_append]
  rfl
theorem csl_zero {a b : List Snd} {i j : Nat} (h : i = 0 ∨ j = 0) : csl (a.take i) (b.take j) = 0 := by
  unfold csl
  rcases h with rfl | rfl
  · simp [cpl]
  · simp only [List.take_zero, List.reverse_nil]
    cases (a.take i).reverse <;> rfl
theorem applyE_rev (x y c : List Snd) : (applyE x.reverse y.reverse c.reverse).map List.reverse = applyF x y c := by
  unfold applyE applyF
  simp only [List.length_reverse]
  by_cases h : x.length ≤ c.length
  · have e : c.reverse.drop (c.length - x.length) = (c.take x.length).reverse := by rw [List.drop_reverse]; congr 1; rw [Nat.sub_sub_self h]
    have e2 : c.reverse.take (c.length - x.length) = (c.drop x.length).reverse := by rw [List.take_reverse]; congr 2; omega
    by_cases h2 : c.take x.length = x
    · rw [if_pos ⟨h, by rw [e, h2]⟩, if_pos ⟨h, h2⟩, Option.map_some, e2, List.reverse_append, List.reverse_reverse, List.reverse_reverse]
    · rw [if_neg (fun q => h2 (by have := q.2; rw [e] at this; simpa using congrArg List.reverse this)), if_neg (fun q => h2 q.2)]; rfl
  · rw [if_neg (fun q => h q.1), if_neg (fun q => h q.1)]; rfl
theorem solve_rev (a b c : List Snd) : (solveW a.reverse b.reverse c.reverse).map List.reverse = frontW a b c := by
  unfold solveW frontW
  have e : ∀ (l : List Snd) (n : Nat), l.reverse.drop n = (l.take (l.length - n)).reverse := fun l n => by rw [List.drop_reverse]
  rw [e, e, applyE_rev]
  rfl
/-- A word in memory of the call's own, or none. -/
structure RowW (m : Mem) (et : TypeId) (q : Option Addr) (cap : Nat) (w : List Snd) : Prop where
  row : w ≠ [] → Row m et 2 q cap w.length (wcells w)
  nil : q = none → cap = 0
  le : w.length ≤ cap
theorem RowW.of {m : Mem} {et : TypeId} {q : Option Addr} {cap : Nat} {w : List Snd} (h : Row m et 2 q cap w.length (wcells w)) : RowW m et q cap w := ⟨fun _ => h, row_cap0 h, h.cap_le⟩
theorem RowW.keep {m m' : Mem} {et : TypeId} {q : Option Addr} {cap : Nat} {w : List Snd} (h : RowW m et q cap w) (hk : ∀ b, m b ≠ none → m' b = m b) : RowW m' et q cap w := ⟨fun hw => (h.row hw).keep fun g _ hg => hk g hg, h.nil, h.le⟩
theorem RowW.joinL {m mq : Mem} {et : TypeId} {q : Option Addr} {cap : Nat} {w : List Snd} (h : RowW m et q cap w) : RowW (m.join mq) et q cap w := h.keep fun _ hb => Mem.join_old hb
theorem RowW.joinR {m mq : Mem} {et : TypeId} {q : Option Addr} {cap : Nat} {w : List Snd} (h : RowW mq et q cap w) (hf : ∀ b, mq b ≠ none → m b = none) : RowW (m.join mq) et q cap w := h.keep fun b hb => Mem.join_new (hf b hb)
theorem RowW.reads {m : Mem} {et : TypeId} {q : Option Addr} {cap : Nat} {w : List Snd} (h : RowW m et q cap w) {c : Cx} {L : List Nat} {ρ : Env} {blks : List Blk} (g : Good c L m) : WordAt (vw c L ρ blks m) q w := by
  by_cases hw : w = []
  · rw [hw]; exact fun i x hx => by simp [wcells] at hx
  · exact (h.row hw).reads g
theorem RowW.ok {m : Mem} {et : TypeId} {q : Option Addr} {cap : Nat} {w : List Snd} (h : RowW m et q cap w) : WD.ok ⟨q, cap, w⟩ := ⟨h.le, h.nil⟩
/-- A word that there may be, in memory. -/
def Opt (et : TypeId) (mq : Mem) (v : Value) (o : Option (List Snd)) : Prop := ∃ q cq, v = .tuple #[slv q (o.getD []).length cq, .bool o.isSome] ∧ RowW mq et q cq (o.getD [])
theorem Opt.none (et : TypeId) (mq : Mem) : Opt et mq (.tuple #[.slice .none 0 0, .bool false]) .none := ⟨.none, 0, rfl, .of (Row.nil _ _ _)⟩
/-- A word, whether there is one, an error. -/
def Res3 (et : TypeId) (mq : Mem) (v : Value) (r : List Snd × Bool × Int) : Prop := ∃ q cq, v = .tuple #[slv q r.1.length cq, .bool r.2.1, .int .i64 r.2.2] ∧ RowW mq et q cq r.1
/-- What a change gives, or why it gives nothing. -/
def oneW (a b c : List Snd) (o : Option (List Snd)) : List Snd × Bool × Int := if checkL [a, b, c] ≠ 0 then ([], false, checkL [a, b, c]) else if (o.getD []).length > 32 then ([], false, 11) else (o.getD [], o.isSome, 0)
theorem res3_fresh (ρ : Env) (L : List Nat) (q : Option Addr) (n cap : Nat) (x : Bool) (e : Int) : ((Sh.tup [.sl, .bool, .int .i64]).fresh ρ.length).1.den L (ρ ++ [.p q, .i n, .i cap, .b x, .i e]) = .tuple #[slv q n cap, .bool x, .int .i64 e] := by
  have e1 := sl_at ρ L q n cap [.b x, .i e]
  have e2 := getElem_env ρ [.p q, .i n, .i cap, .b x, .i e] 3
  have e3 := getElem_env ρ [.p q, .i n, .i cap, .b x, .i e] 4
  simp only [Sh.fresh, Sh.freshs, SV.den, SV.dens, BT.eval, IT.eval, Env.bool, Env.int] at e1 e2 e3 ⊢
  rw [e1, show ρ.length + 1 + 2 = ρ.length + 3 by omega, e2, show ρ.length + 3 + 1 = ρ.length + 4 by omega, e3]
  rfl
theorem two_fresh (ρ : Env) (L : List Nat) (q : Option Addr) (n cap : Nat) (q' : Option Addr) (n' cap' : Nat) : ((Sh.tup [.sl, .sl]).fresh ρ.length).1.den L (ρ ++ [.p q, .i n, .i cap, .p q', .i n', .i cap']) = .tuple #[slv q n cap, slv q' n' cap'] := by
  have e1 := sl_at ρ L q n cap [.p q', .i n', .i cap']
  have e2 := sl_at (ρ ++ [.p q, .i n, .i cap]) L q' n' cap' []
  rw [List.append_assoc] at e2
  simp only [List.cons_append, List.nil_append, List.length_append, List.length_cons, List.length_nil] at e2
  simp only [Sh.fresh, Sh.freshs, SV.den, SV.dens] at e1 e2 ⊢
  rw [e1, e2]
theorem opt_fresh (ρ : Env) (L : List Nat) (q : Option Addr) (n cap : Nat) (x : Bool) : ((Sh.tup [.sl, .bool]).fresh ρ.length).1.den L (ρ ++ [.p q, .i n, .i cap, .b x]) = .tuple #[slv q n cap, .bool x] := by
  have e1 := sl_at ρ L q n cap [.b x]
  have e2 := getElem_env ρ [.p q, .i n, .i cap, .b x] 3
  simp only [Sh.fresh, Sh.freshs, SV.den, SV.dens, BT.eval, Env.bool] at e1 e2 ⊢
  rw [e1, show ρ.length + 1 + 2 = ρ.length + 3 by omega, e2]
  rfl
end Go.Sy
namespace Go.Proofs.YtpbbnmjkbfbelaaDoor
open Go Go.Sy Go.RowKit
theorem c_grow (n : Nat) (hn : n < 2 ^ 40) : FnM Tryd.prog n_slices_Grow___api_Sound_api_Sound_ [slv none 0 0, .int .i64 n] (fun _ => True) fun v mq _ => ∃ q cq, v = slv q 0 cq ∧ Row mq 31 2 q cq 0 [] := by
  refine FnM.of S_slices_Grow___api_Sound_api_Sound_ mx [.p none, .i 0, .i 0, .i n] rfl rfl fun c _ => .join (fun us mm => us = [] ∧ mm = Mem.emp) (.no (by ((try simp only [evE, liE, letsOf, letU, snd]); (try simp only [cmE])); omega) (.again rfl ⟨rfl, rfl⟩)) ?_
  rintro _ _ _ ⟨rfl, rfl⟩
  have e0 : ar .sub .i64 (n : Int) (ar .sub .i64 0 0) = (n : Int) := by rw [show ar .sub .i64 0 0 = 0 from rfl, subI (by omega) (by omega)]; omega
  refine .env (by (try simp only [liE, letsOf, letU, snd, List.append_nil]); rfl) (.capS Tryd.underlying22 none 0 0 (.env (by (try simp only [liE, letsOf, letU, snd, List.append_nil]); rfl) (.chk rfl (.join (fun us mm => ∃ q cq, us = [.p q, .i 0, .i (cq : Nat)] ∧ Row mm 31 2 q cq 0 []) (.ite (fun h1 => ?_) (fun h1 => .again rfl ⟨none, 0, rfl, Row.nil _ _ _⟩)) ?_))))
  · replace h1 : cm .gtr (ar .sub .i64 (n : Int) (ar .sub .i64 0 0)) 0 = true := h1
    rw [e0] at h1
    simp only [cm, decide_eq_true_eq] at h1
    refine .capS Tryd.underlying22 none 0 0 (.env (by (try simp only [liE, letsOf, letU, snd, List.append_nil]); rfl) (.chk rfl (.growNil n el22 Tryd.underlying3 (by omega) (by simp [maxLen]; omega) (by omega) (fun g cap' m' hg hle hr _ => ?_) rfl (by show Value.int _ (ar .sub .i64 (n : Int) (ar .sub .i64 0 0)) = _; rw [e0]))))
    refine .env (by (try simp only [liE, letsOf, letU, snd, List.append_nil]); rfl) (.chk rfl (.chk (by ((try simp only [evE, liE, letsOf, letU, snd]); (try simp only [cmE])); simp) (.again rfl ⟨some ⟨g, 0, none⟩, cap', ?_, hr⟩)))
    (simp only [evE, liE, letsOf, letU, snd, Sh.uss, Sh.us, atAddr, map_add0, List.append_nil]); simp [addr_zero]
  · rintro _ m _ ⟨q, cq, rfl, hr⟩
    exact .env (by (try simp only [liE, letsOf, letU, snd, List.append_nil]); rfl) (.ret rfl ⟨q, cq, rfl, hr⟩)
def cat (l : List WD) : List Snd := l.flatMap (·.w)
theorem cat_snoc {l : List WD} {j : Nat} (hj : j < l.length) : cat (l.take (j + 1)) = cat (l.take j) ++ l[j].w := by
  unfold cat
  rw [List.take_succ_eq_append_getElem hj, List.flatMap_append]; simp
theorem cat_le {l : List WD} (j : Nat) : (cat (l.take j)).length ≤ (cat l).length := by
  conv => rhs; rw [← List.take_append_drop j l]
  unfold cat
  rw [List.flatMap_append, List.length_append]; omega
theorem c_concat (q : Option Addr) (cq : Nat) (l : List WD) (ho : ∀ x ∈ l, x.ok) (hl : l.length < 2 ^ 40) (hn : (cat l).length < 2 ^ 40) : FnM Tryd.prog n_slices_Concat___api_Sound_api_Sound_ [slv q l.length cq] (fun R => WordsAt R q l) fun v mq _ => ∃ q' cq', v = slv q' (cat l).length cq' ∧ Row mq 31 2 q' cq' (cat l).length (wcells (cat l)) := by
  refine FnM.of S_slices_Concat___api_Sound_api_Sound_ mx [.p q, .i l.length, .i cq] rfl rfl fun c hp => .chk (by ((try simp only [evE, liE, letsOf, letU, snd]); (try simp only [cmE])); omega) ?_
  refine .loop (fun n us mm => ∃ j : Nat, us = [.i ((cat (l.take j)).length : Nat), .i j] ∧ n + j = l.length ∧ mm = Mem.emp) l.length ⟨0, rfl, rfl, rfl⟩ ?_
  rintro n _ _ _ ⟨j, rfl, hn', rfl⟩
  refine .ite (fun h1 => ?_) (fun h1 => ?_) <;> ((try simp only [evE, liE, letsOf, letU, snd] at h1); (try simp only [cmE] at h1))
  · have hj : j < l.length := by omega
    have hc := cat_le (l := l) (j + 1)
    have hs := congrArg List.length (cat_snoc hj)
    rw [List.length_append] at hs
    have e1 : ar .add .i64 ((cat (l.take j)).length : Int) (l[j].w.length : Int) = ((cat (l.take (j + 1))).length : Nat) := by rw [addI (by omega) (by omega), hs]; omega
    refine .loadWD l j hj (fun g => hp.1.mono g.R) (.env (by (try simp only [liE, letsOf, letU, snd, List.append_nil]); rfl) (.chk (by ((try simp only [evE, liE, letsOf, letU, snd]); (try simp only [cmE])); omega) (.join (fun us mm => us = [] ∧ mm = Mem.emp) (.no ?_ (.again rfl ⟨rfl, rfl⟩)) ?_)))
    · show cm .lss (ar .add .i64 ((cat (l.take j)).length : Int) (l[j].w.length : Int)) 0 = false
      rw [e1]; simp only [cm, decide_eq_false_iff_not]; omega
    · rintro _ _ _ ⟨rfl, rfl⟩
      refine .env (by (try simp only [liE, letsOf, letU, snd, List.append_nil]); rfl) (.again rfl ⟨n - 1, by omega, j + 1, ?_, by omega, rfl⟩)
      (simp only [evE, liE, letsOf, letU, snd, Sh.uss, Sh.us, atAddr, map_add0, List.append_nil]); rw [add_i64 j (by omega), e1]
  · rw [List.take_of_length_le (by omega)]
    refine .env (by (try simp only [liE, letsOf, letU, snd, List.append_nil]); rfl) (.callM (c_grow (cat l).length hn) rfl rfl (fun _ => trivial) ?_)
    rintro v mq hf ⟨q1, c1, rfl, hr1⟩
    refine ⟨[.p q1, .i 0, .i c1], uOk_of rfl, (slv_fresh _ _ _ _ _).symm, ?_⟩
    replace hr1 := hr1.joinR (m := Mem.emp) fun b hb => (hf b hb).1
    refine .env (by (try simp only [liE, letsOf, letU, snd, List.append_nil]); rfl) (.chk (by ((try simp only [evE, liE, letsOf, letU, snd]); (try simp only [cmE])); omega) (.loop (fun n us mm => ∃ (j : Nat) (q1 : Option Addr) (c1 : Nat), us = [.p q1, .i ((cat (l.take j)).length : Nat), .i (c1 : Nat), .i j] ∧ n + j = l.length ∧ Row mm 31 2 q1 c1 (cat (l.take j)).length (wcells (cat (l.take j)))) l.length ⟨0, q1, c1, by (simp only [evE, liE, letsOf, letU, snd, Sh.uss, Sh.us, atAddr, map_add0, List.append_nil]); rfl, rfl, hr1⟩ ?_))
    clear hr1 hf
    rintro n _ m _ ⟨j, q1, c1, rfl, hn', hr1⟩
    refine .env (by (try simp only [liE, letsOf, letU, snd, List.append_nil]); rfl) (.ite (fun h1 => ?_) (fun h1 => .ret rfl ⟨q1, c1, ?_⟩)) <;> ((try simp only [evE, liE, letsOf, letU, snd] at h1); (try simp only [cmE] at h1))
    · have hj : j < l.length := by omega
      have hc := cat_le (l := l) (j + 1)
      have hs := congrArg List.length (cat_snoc hj)
      rw [List.length_append] at hs
      refine .loadWD l j hj (fun g => hp.1.mono g.R) (.env (by (try simp only [liE, letsOf, letU, snd, List.append_nil]); rfl) (.append (q := q1) (cap := c1) (n := (cat (l.take j)).length) (qx := l[j].p) (kx := l[j].w.length) (capx := l[j].cap) (news := wcells l[j].w) el22 hr1 (fun g => (hp.2 _ (List.getElem_mem hj)).mono g.R) (wcells_len _) (wcells_one _) (ho _ (List.getElem_mem hj)).nil (by simp [maxLen]; omega) (by omega) (fun q' cq' m' hr' _ _ => .again rfl ⟨n - 1, by omega, j + 1, q', cq', ?_, by omega, ?_⟩)))
      · (simp only [evE, liE, letsOf, letU, snd, Sh.uss, Sh.us, atAddr, map_add0, List.append_nil]); rw [add_i64 j (by omega), hs]
      · rw [cat_snoc hj, wcells_append, List.length_append]; exact hr'
    · rw [List.take_of_length_le (by omega)] at hr1 ⊢
      exact ⟨rfl, hr1⟩
theorem c_E1 (A B : WD) (oa : A.ok) (ob : B.ok) (la : A.w.length < 2 ^ 38) (lb : B.w.length < 2 ^ 38) : FnM Tryd.prog n_analogy_ending_1 [A.v, B.v] (fun R => WordAt R A.p A.w ∧ WordAt R B.p B.w) fun v _ _ => v = .tuple #[(A.from (cpl A.w B.w)).v, (B.from (cpl A.w B.w)).v] := by
  refine FnM.of S_analogy_ending_1 mx [.p A.p, .i A.w.length, .i A.cap, .p B.p, .i B.w.length, .i B.cap] rfl rfl fun c hp => .callM (c_common A.p B.p A.cap B.cap A.w B.w (by omega) (by omega)) rfl rfl (fun g => ⟨hp.1.mono g.R, hp.2.mono g.R⟩) ?_
  rintro v mq hf ⟨k, rfl⟩
  have hle := cpl_le A.w B.w
  have := oa.le; have := ob.le
  refine ⟨[.i (cpl A.w B.w : Nat), .i k], uOk_of rfl, rfl, .env (by (try simp only [liE, letsOf, letU, snd, List.append_nil]); rfl) (.chk (by ((try simp only [evE, liE, letsOf, letU, snd]); (try simp only [cmE])); omega) (.chk (by ((try simp only [evE, liE, letsOf, letU, snd]); (try simp only [cmE])); omega) (.ret ?_ rfl)))⟩
  simp only [SV.den, SV.dens]
  have e1 := den_from (L := []) (ρ := [.p A.p, .i A.w.length, .i A.cap, .p B.p, .i B.w.length, .i B.cap, .i (cpl A.w B.w : Nat), .i k]) (i := 0) (C := .var 2) (N := .var 6) (Ln := .var 1) (x := A) (n := cpl A.w B.w) rfl rfl rfl rfl
  have e2 := den_from (L := []) (ρ := [.p A.p, .i A.w.length, .i A.cap, .p B.p, .i B.w.length, .i B.cap, .i (cpl A.w B.w : Nat), .i k]) (i := 3) (C := .var 5) (N := .var 6) (Ln := .var 4) (x := B) (n := cpl A.w B.w) rfl rfl rfl rfl
  simp only [SV.den] at e1 e2
  rw [e1, e2]
end Go.Proofs.YtpbbnmjkbfbelaaDoor
/- Chapter 30: the two kinds of changes, applied. -/
namespace Go.Proofs.YtpbbnmjkbfbelaaDoor
open Go Go.Sy Go.RowKit
theorem c_E2 (X Y C : WD) (ox : X.ok) (oy : Y.ok) (oc : C.ok) (lx : X.w.length < 2 ^ 38) (ly : Y.w.length < 2 ^ 38) (lc : C.w.length < 2 ^ 38) : FnM Tryd.prog n_analogy_ending_2 [X.v, Y.v, C.v] (fun R => WordAt R X.p X.w ∧ WordAt R Y.p Y.w ∧ WordAt R C.p C.w) fun v mq _ => Opt 31 mq v (applyE X.w Y.w C.w) := by
  refine FnM.of S_analogy_ending_2 mx [.p X.p, .i X.w.length, .i X.cap, .p Y.p, .i Y.w.length, .i Y.cap, .p C.p, .i C.w.length, .i C.cap] rfl rfl fun c hp => .chk (by ((try simp only [evE, liE, letsOf, letU, snd]); (try simp only [cmE])); omega) (.chk (by ((try simp only [evE, liE, letsOf, letU, snd]); (try simp only [cmE])); omega) (.ite (fun h1 => .ret rfl ?_) (fun h1 => ?_)))
  all_goals
    have es : ar .sub .i64 (C.w.length : Int) (X.w.length : Int) = (C.w.length : Int) - X.w.length := subI (by omega) (by omega)
  · replace h1 : cm .lss (ar .sub .i64 (C.w.length : Int) (X.w.length : Int)) 0 = true := h1
    rw [es] at h1
    simp only [cm, decide_eq_true_eq] at h1
    have : applyE X.w Y.w C.w = none := by unfold applyE; rw [if_neg (by omega)]
    rw [this]; exact Opt.none _ _
  replace h1 : cm .lss (ar .sub .i64 (C.w.length : Int) (X.w.length : Int)) 0 = false := h1
  rw [es] at h1
  simp only [cm, decide_eq_false_iff_not] at h1
  have hcap := oc.le
  obtain ⟨n, hn⟩ : ∃ n, n = C.w.length - X.w.length := ⟨_, rfl⟩
  have en : ar .sub .i64 (C.w.length : Int) (X.w.length : Int) = (n : Int) := by rw [es]; omega
  have hnl : n ≤ C.w.length := by omega
  have hfl : (C.from n).w.length ≤ C.w.length := by simp [WD.from]
  refine .chk ?_ (.callV (c_wordEqual (C.from n).p X.p (C.from n).cap X.cap (C.from n).w X.w (by omega)) (fun g => ⟨WordAt.from (hp.2.2.mono g.R) oc.le n, hp.1.mono g.R⟩) ?_ (hargs := ?_))
  · show (bif cm .leq 0 (ar .sub .i64 (C.w.length : Int) (X.w.length : Int)) then (bif cm .leq (ar .sub .i64 (C.w.length : Int) (X.w.length : Int)) (C.w.length : Int) then cm .leq (C.w.length : Int) (C.cap : Int) else false) else false) = true
    rw [en]
    simp only [cm, pick_and, Bool.and_eq_true, decide_eq_true_eq]; omega
  · refine .env (by (try simp only [liE, letsOf, letU, snd, List.append_nil]); rfl) (.ite (fun h2 => .ret rfl ?_) (fun h2 => ?_))
    · replace h2 : (!decide ((C.from n).w = X.w)) = true := h2
      have : applyE X.w Y.w C.w = none := by
        unfold applyE
        rw [if_neg]
        rintro ⟨_, q⟩
        rw [← hn] at q
        simp [WD.from, q] at h2
      rw [this]; exact Opt.none _ _
    · replace h2 : (!decide ((C.from n).w = X.w)) = false := h2
      rw [Bool.not_eq_false', decide_eq_true_eq] at h2
      replace h2 : C.w.drop n = X.w := h2
      have happ : applyE X.w Y.w C.w = some (C.w.take n ++ Y.w) := by
        unfold applyE
        rw [← hn, if_pos ⟨by omega, h2⟩]
      have hcat : cat [C.upto n, Y] = C.w.take n ++ Y.w := by simp [cat, WD.upto]
      refine .chk ?_ (.alloc fun b0 => .callM (c_concat (some ⟨b0, 0, none⟩) 2 [C.upto n, Y] ?_ (by simp) ?_) rfl rfl (fun g => ⟨g.cells (j := 0) rfl rfl ?_, ?_⟩) ?_)
      · show (bif cm .leq 0 (ar .sub .i64 (C.w.length : Int) (X.w.length : Int)) then cm .leq (ar .sub .i64 (C.w.length : Int) (X.w.length : Int)) (C.cap : Int) else false) = true
        rw [en]
        simp only [cm, pick_and, Bool.and_eq_true, decide_eq_true_eq]; omega
      · simp only [List.mem_cons, List.not_mem_nil, or_false]
        rintro x (rfl | rfl)
        · exact WD.upto_ok oc n
        · exact oy
      · rw [hcat]; simp; omega
      · simp only [SV.dens]
        rw [den_upto (x := C) (n := n) rfl rfl (by show ar .sub .i64 (C.w.length : Int) (X.w.length : Int) = _; exact en) hnl]; rfl
      · simp only [List.mem_cons, List.not_mem_nil, or_false]
        rintro x (rfl | rfl)
        · exact WordAt.upto (hp.2.2.mono g.R) n
        · exact hp.2.1.mono g.R
      · rintro v mq hf ⟨q, cq, rfl, hr⟩
        rw [hcat] at hr ⊢
        refine ⟨[.p q, .i _, .i cq], ⟨_, _, _, rfl⟩, (slv_fresh _ _ _ _ _).symm, .env (by (try simp only [liE, letsOf, letU, snd, List.append_nil]); rfl) (.ret rfl ?_)⟩
        rw [happ]
        exact ⟨q, cq, rfl, .of (hr.joinR fun b hb => (hf b hb).1)⟩
  · simp only [SV.dens]
    rw [den_from (x := C) (n := n) rfl rfl (by show ar .sub .i64 (C.w.length : Int) (X.w.length : Int) = _; exact en) rfl]
    rfl
theorem c_F2 (X Y C : WD) (ox : X.ok) (oy : Y.ok) (oc : C.ok) (lx : X.w.length < 2 ^ 38) (ly : Y.w.length < 2 ^ 38) (lc : C.w.length < 2 ^ 38) : FnM Tryd.prog n_analogy_beginning_2 [X.v, Y.v, C.v] (fun R => WordAt R X.p X.w ∧ WordAt R Y.p Y.w ∧ WordAt R C.p C.w) fun v mq _ => Opt 31 mq v (applyF X.w Y.w C.w) := by
  refine FnM.of S_analogy_beginning_2 mx [.p X.p, .i X.w.length, .i X.cap, .p Y.p, .i Y.w.length, .i Y.cap, .p C.p, .i C.w.length, .i C.cap] rfl rfl fun c hp => .chk (by ((try simp only [evE, liE, letsOf, letU, snd]); (try simp only [cmE])); omega) (.chk (by ((try simp only [evE, liE, letsOf, letU, snd]); (try simp only [cmE])); omega) (.ite (fun h1 => .ret rfl ?_) (fun h1 => ?_)))
  · ((try simp only [evE, liE, letsOf, letU, snd] at h1); (try simp only [cmE] at h1))
    have : applyF X.w Y.w C.w = none := by unfold applyF; rw [if_neg (by omega)]
    rw [this]; exact Opt.none _ _
  ((try simp only [evE, liE, letsOf, letU, snd] at h1); (try simp only [cmE] at h1))
  have hcap := oc.le
  have hnl : X.w.length ≤ C.w.length := by omega
  have hul : (C.upto X.w.length).w.length ≤ C.w.length := by simp [WD.upto]; omega
  refine .chk (by ((try simp only [evE, liE, letsOf, letU, snd]); (try simp only [cmE])); omega) (.chk (by ((try simp only [evE, liE, letsOf, letU, snd]); (try simp only [cmE])); omega) (.callV (c_wordEqual (C.upto X.w.length).p X.p (C.upto X.w.length).cap X.cap (C.upto X.w.length).w X.w (by omega)) (fun g => ⟨WordAt.upto (hp.2.2.mono g.R) _, hp.1.mono g.R⟩) ?_ (hargs := ?_)))
  · refine .env (by (try simp only [liE, letsOf, letU, snd, List.append_nil]); rfl) (.ite (fun h2 => .ret rfl ?_) (fun h2 => ?_))
    · replace h2 : (!decide ((C.upto X.w.length).w = X.w)) = true := h2
      have : applyF X.w Y.w C.w = none := by
        unfold applyF
        rw [if_neg]
        rintro ⟨_, q⟩
        simp [WD.upto, q] at h2
      rw [this]; exact Opt.none _ _
    · replace h2 : (!decide ((C.upto X.w.length).w = X.w)) = false := h2
      rw [Bool.not_eq_false', decide_eq_true_eq] at h2
      replace h2 : C.w.take X.w.length = X.w := h2
      have happ : applyF X.w Y.w C.w = some (Y.w ++ C.w.drop X.w.length) := by
        unfold applyF
        rw [if_pos ⟨by omega, h2⟩]
      have hcat : cat [Y, C.from X.w.length] = Y.w ++ C.w.drop X.w.length := by simp [cat, WD.from]
      refine .chk (by ((try simp only [evE, liE, letsOf, letU, snd]); (try simp only [cmE])); omega) (.chk (by ((try simp only [evE, liE, letsOf, letU, snd]); (try simp only [cmE])); omega) (.alloc fun b0 => .callM (c_concat (some ⟨b0, 0, none⟩) 2 [Y, C.from X.w.length] ?_ (by simp) ?_) rfl rfl (fun g => ⟨g.cells (j := 0) rfl rfl ?_, ?_⟩) ?_))
      · simp only [List.mem_cons, List.not_mem_nil, or_false]
        rintro x (rfl | rfl)
        · exact oy
        · exact WD.from_ok oc hnl
      · rw [hcat]; simp; omega
      · simp only [SV.dens]
        rw [den_from (x := C) (n := X.w.length) rfl rfl rfl rfl]; rfl
      · simp only [List.mem_cons, List.not_mem_nil, or_false]
        rintro x (rfl | rfl)
        · exact hp.2.1.mono g.R
        · exact WordAt.from (hp.2.2.mono g.R) oc.le _
      · rintro v mq hf ⟨q, cq, rfl, hr⟩
        rw [hcat] at hr ⊢
        refine ⟨[.p q, .i _, .i cq], ⟨_, _, _, rfl⟩, (slv_fresh _ _ _ _ _).symm, .env (by (try simp only [liE, letsOf, letU, snd, List.append_nil]); rfl) (.ret rfl ?_)⟩
        rw [happ]
        exact ⟨q, cq, rfl, .of (hr.joinR fun b hb => (hf b hb).1)⟩
  · simp only [SV.dens]
    rw [den_upto (x := C) (n := X.w.length) rfl rfl rfl hnl]
    rfl
theorem c_F1 (A B : WD) (oa : A.ok) (ob : B.ok) (la : A.w.length < 2 ^ 38) (lb : B.w.length < 2 ^ 38) : FnM Tryd.prog n_analogy_beginning_1 [A.v, B.v] (fun R => WordAt R A.p A.w ∧ WordAt R B.p B.w) fun v _ _ => v = .tuple #[(A.upto (A.w.length - csl A.w B.w)).v, (B.upto (B.w.length - csl A.w B.w)).v] := by
  refine FnM.of S_analogy_beginning_1 mx [.p A.p, .i A.w.length, .i A.cap, .p B.p, .i B.w.length, .i B.cap] rfl rfl fun c hp => .chk (by ((try simp only [evE, liE, letsOf, letU, snd]); (try simp only [cmE])); omega) (.chk (by ((try simp only [evE, liE, letsOf, letU, snd]); (try simp only [cmE])); omega) ?_)
  have hca := oa.le; have hcb := ob.le
  refine .loop (fun n us _ => ∃ i k : Nat, us = [.i i, .i k] ∧ n = i ∧ i ≤ A.w.length ∧ k ≤ B.w.length ∧ A.w.length - i = B.w.length - k ∧ csl A.w B.w = (A.w.length - i) + csl (A.w.take i) (B.w.take k)) A.w.length ⟨A.w.length, B.w.length, rfl, rfl, Nat.le_refl _, Nat.le_refl _, by omega, by simp⟩ ?_
  rintro n _ m _ ⟨i, k, rfl, rfl, hi, hk, hd, hc⟩
  have fin : csl (A.w.take n) (B.w.take k) = 0 → DenM Tryd.prog (outM c fun v _ => v = .tuple #[(A.upto (A.w.length - csl A.w B.w)).v, (B.upto (B.w.length - csl A.w B.w)).v]) (fun _ _ _ => False) (.chk (.pick (.cmp .leq (.lit 0) (.var 6)) (.cmp .leq (.var 6) (.var 2)) (.lit false)) (.chk (.pick (.cmp .leq (.lit 0) (.var 7)) (.cmp .leq (.var 7) (.var 5)) (.lit false))
      (.ret (.tup [(.sl 0 (.ifeq (.var 2) (.lit 0) (.lit 0) (.lit 0)) (.var 6) (.var 2)), (.sl 3 (.ifeq (.var 5) (.lit 0) (.lit 0) (.lit 0)) (.var 7) (.var 5))]) []))) [] [.p A.p, .i A.w.length, .i A.cap, .p B.p, .i B.w.length, .i B.cap, .i n, .i k] c m ([].take 0 ++ [inM c fun us' m'' => ∃ n', n' < n ∧ ∃ i k : Nat, us' = [.i i, .i k] ∧ n' = i ∧ i ≤ A.w.length ∧ k ≤ B.w.length ∧ A.w.length - i = B.w.length - k ∧ csl A.w B.w = (A.w.length - i) + csl (A.w.take i) (B.w.take k)]) := fun h0 => by
    have e1 : A.w.length - csl A.w B.w = n := by omega
    have e2 : B.w.length - csl A.w B.w = k := by omega
    rw [e1, e2]
    refine .chk (by ((try simp only [evE, liE, letsOf, letU, snd]); (try simp only [cmE])); omega) (.chk (by ((try simp only [evE, liE, letsOf, letU, snd]); (try simp only [cmE])); omega) (.ret ?_ rfl))
    have q1 := den_upto (L := []) (ρ := [.p A.p, .i A.w.length, .i A.cap, .p B.p, .i B.w.length, .i B.cap, .i n, .i k]) (i := 0) (C := .var 2) (N := .var 6) (x := A) (n := n) rfl rfl rfl hi
    have q2 := den_upto (L := []) (ρ := [.p A.p, .i A.w.length, .i A.cap, .p B.p, .i B.w.length, .i B.cap, .i n, .i k]) (i := 3) (C := .var 5) (N := .var 7) (x := B) (n := k) rfl rfl rfl hk
    simp only [SV.den, SV.dens] at q1 q2 ⊢
    rw [q1, q2]
  refine .env rfl (.ite (fun h1 => ?_) (fun h1 => fin (csl_zero ?_))) <;> ((try simp only [evE, liE, letsOf, letU, snd] at h1); (try simp only [cmE] at h1))
  · obtain ⟨i, rfl⟩ : ∃ i, n = i + 1 := ⟨n - 1, by omega⟩
    obtain ⟨j, rfl⟩ : ∃ j, k = j + 1 := ⟨k - 1, by omega⟩
    have e1 : ar .sub .i64 ((i + 1 : Nat) : Int) 1 = (i : Int) := by rw [subI (by omega) (by omega)]; omega
    have e2 : ar .sub .i64 ((j + 1 : Nat) : Int) 1 = (j : Int) := by rw [subI (by omega) (by omega)]; omega
    rw [csl_take (by omega) (by omega)] at hc
    refine .loadW A.w i (by omega) (fun g => hp.1.mono g.R) (.env (by (try simp only [liE, letsOf, letU, snd, List.append_nil]); rfl) (.loadW B.w j (by omega) (fun g => hp.2.mono g.R) (.env (by (try simp only [liE, letsOf, letU, snd, List.append_nil]); rfl) (.ite (fun h2 => ?_) (fun h2 => ?_))) (by show ar .sub .i64 _ _ = _; exact e2) rfl)) (by show ar .sub .i64 _ _ = _; exact e1) rfl <;> ((try simp only [evE, liE, letsOf, letU, snd] at h2); (try simp only [cmE] at h2))
    · rw [if_pos (snd_eq.1 h2)] at hc
      refine .again rfl ⟨i, by omega, i, j, ?_, rfl, by omega, by omega, by omega, by omega⟩
      (simp only [evE, liE, letsOf, letU, snd, Sh.uss, Sh.us, atAddr, map_add0, List.append_nil]); rw [e1, e2]
    · have hne : ¬ A.w[i] = B.w[j] := fun e => by have := snd_eq.2 e; simp [this.1, this.2] at h2
      have h0 : csl (A.w.take (i + 1)) (B.w.take (j + 1)) = 0 := by rw [csl_take (by omega) (by omega), if_neg hne]
      have q := fin h0
      rw [if_neg hne] at hc
      have e1 : A.w.length - csl A.w B.w = i + 1 := by omega
      have e2 : B.w.length - csl A.w B.w = j + 1 := by omega
      rw [e1, e2]
      refine .chk (by ((try simp only [evE, liE, letsOf, letU, snd]); (try simp only [cmE])); omega) (.chk (by ((try simp only [evE, liE, letsOf, letU, snd]); (try simp only [cmE])); omega) (.ret ?_ rfl))
      have q1 := den_upto (L := []) (ρ := [.p A.p, .i A.w.length, .i A.cap, .p B.p, .i B.w.length, .i B.cap, .i (i + 1 : Nat), .i (j + 1 : Nat), .i A.w[i].1, .i A.w[i].2, .i B.w[j].1, .i B.w[j].2]) (i := 0) (C := .var 2) (N := .var 6) (x := A) (n := i + 1) rfl rfl rfl hi
      have q2 := den_upto (L := []) (ρ := [.p A.p, .i A.w.length, .i A.cap, .p B.p, .i B.w.length, .i B.cap, .i (i + 1 : Nat), .i (j + 1 : Nat), .i A.w[i].1, .i A.w[i].2, .i B.w[j].1, .i B.w[j].2]) (i := 3) (C := .var 5) (N := .var 7) (x := B) (n := j + 1) rfl rfl rfl hk
      simp only [SV.den, SV.dens] at q1 q2 ⊢
      rw [q1, q2]
  · rcases h1 with h | h
    · exact .inl (by omega)
    · exact .inr (by omega)
abbrev fE1 : Value := .func (.func n_analogy_ending_1) #[] #[]
abbrev fE2 : Value := .func (.func n_analogy_ending_2) #[] #[]
theorem c_chgE (A B C : WD) (oa : A.ok) (ob : B.ok) (oc : C.ok) (la : A.w.length < 2 ^ 38) (lb : B.w.length < 2 ^ 38) (lc : C.w.length < 2 ^ 38) : FnM Tryd.prog n__analogy_change__solve [.agg #[fE1, fE2], A.v, B.v, C.v] (fun R => WordAt R A.p A.w ∧ WordAt R B.p B.w ∧ WordAt R C.p C.w) fun v mq _ => Opt 31 mq v (solveW A.w B.w C.w) := by
  refine FnM.of S__analogy_change__solve mx [.v fE1, .v fE2, .p A.p, .i A.w.length, .i A.cap, .p B.p, .i B.w.length, .i B.cap, .p C.p, .i C.w.length, .i C.cap] rfl rfl fun c hp => .alloc fun b0 => ?_
  refine .callvM (FnV.of0 (by kernel_rfl) (c_E1 A B oa ob la lb)) rfl rfl rfl (fun g => ⟨hp.1.mono g.R, hp.2.1.mono g.R⟩) ?_
  rintro v mq hf rfl
  have hXe : (A.from (cpl A.w B.w)).w = A.w.drop (cpl A.w B.w) := rfl
  have hYe : (B.from (cpl A.w B.w)).w = B.w.drop (cpl A.w B.w) := rfl
  have hs : solveW A.w B.w C.w = applyE (A.from (cpl A.w B.w)).w (B.from (cpl A.w B.w)).w C.w := rfl
  have hx : WordAt c.R (A.from (cpl A.w B.w)).p (A.from (cpl A.w B.w)).w := WordAt.from hp.1 oa.le _
  have hy : WordAt c.R (B.from (cpl A.w B.w)).p (B.from (cpl A.w B.w)).w := WordAt.from hp.2.1 ob.le _
  have ox : (A.from (cpl A.w B.w)).ok := WD.from_ok oa (cpl_le _ _).1
  have oy : (B.from (cpl A.w B.w)).ok := WD.from_ok ob (cpl_le _ _).2
  have lX : (A.from (cpl A.w B.w)).w.length < 2 ^ 38 := by rw [hXe]; simp; omega
  have lY : (B.from (cpl A.w B.w)).w.length < 2 ^ 38 := by rw [hYe]; simp; omega
  rw [hs]
  generalize A.from (cpl A.w B.w) = X at *
  generalize B.from (cpl A.w B.w) = Y at *
  refine ⟨[.p X.p, .i X.w.length, .i X.cap, .p Y.p, .i Y.w.length, .i Y.cap], uOk_of rfl, (two_fresh _ _ _ _ _ _ _ _).symm, ?_⟩
  refine .env (by (try simp only [liE, letsOf, letU, snd, List.append_nil]); rfl) (.callvM (FnV.of0 (by kernel_rfl) (c_E2 X Y C ox oy oc lX lY lc)) rfl rfl rfl (fun g => ⟨hx.mono g.R, hy.mono g.R, hp.2.2.mono g.R⟩) ?_)
  rintro v mq2 hf2 ⟨q, cq, rfl, hr⟩
  refine ⟨[.p q, .i (_ : Nat), .i (cq : Nat), .b _], uOk_of rfl, (opt_fresh _ _ _ _ _ _).symm, .env (by (try simp only [liE, letsOf, letU, snd, List.append_nil]); rfl) (.ret rfl ⟨q, cq, rfl, hr.joinR fun b hb => (hf2 b hb).1⟩)⟩
abbrev fF1 : Value := .func (.func n_analogy_beginning_1) #[] #[]
abbrev fF2 : Value := .func (.func n_analogy_beginning_2) #[] #[]
theorem c_chgF (A B C : WD) (oa : A.ok) (ob : B.ok) (oc : C.ok) (la : A.w.length < 2 ^ 38) (lb : B.w.length < 2 ^ 38) (lc : C.w.length < 2 ^ 38) : FnM Tryd.prog n__analogy_change__solve [.agg #[fF1, fF2], A.v, B.v, C.v] (fun R => WordAt R A.p A.w ∧ WordAt R B.p B.w ∧ WordAt R C.p C.w) fun v mq _ => Opt 31 mq v (frontW A.w B.w C.w) := by
  refine FnM.of S__analogy_change__solve mx [.v fF1, .v fF2, .p A.p, .i A.w.length, .i A.cap, .p B.p, .i B.w.length, .i B.cap, .p C.p, .i C.w.length, .i C.cap] rfl rfl fun c hp => .alloc fun b0 => ?_
  refine .callvM (FnV.of0 (by kernel_rfl) (c_F1 A B oa ob la lb)) rfl rfl rfl (fun g => ⟨hp.1.mono g.R, hp.2.1.mono g.R⟩) ?_
  rintro v mq hf rfl
  have hXe : (A.upto (A.w.length - csl A.w B.w)).w = A.w.take (A.w.length - csl A.w B.w) := rfl
  have hYe : (B.upto (B.w.length - csl A.w B.w)).w = B.w.take (B.w.length - csl A.w B.w) := rfl
  have hs : frontW A.w B.w C.w = applyF (A.upto (A.w.length - csl A.w B.w)).w (B.upto (B.w.length - csl A.w B.w)).w C.w := rfl
  have hx : WordAt c.R (A.upto (A.w.length - csl A.w B.w)).p (A.upto (A.w.length - csl A.w B.w)).w := WordAt.upto hp.1 _
  have hy : WordAt c.R (B.upto (B.w.length - csl A.w B.w)).p (B.upto (B.w.length - csl A.w B.w)).w := WordAt.upto hp.2.1 _
  have ox : (A.upto (A.w.length - csl A.w B.w)).ok := WD.upto_ok oa _
  have oy : (B.upto (B.w.length - csl A.w B.w)).ok := WD.upto_ok ob _
  have lX : (A.upto (A.w.length - csl A.w B.w)).w.length < 2 ^ 38 := by rw [hXe]; simp; omega
  have lY : (B.upto (B.w.length - csl A.w B.w)).w.length < 2 ^ 38 := by rw [hYe]; simp; omega
  rw [hs]
  generalize A.upto (A.w.length - csl A.w B.w) = X at *
  generalize B.upto (B.w.length - csl A.w B.w) = Y at *
  refine ⟨[.p X.p, .i X.w.length, .i X.cap, .p Y.p, .i Y.w.length, .i Y.cap], uOk_of rfl, (two_fresh _ _ _ _ _ _ _ _).symm, ?_⟩
  refine .env (by (try simp only [liE, letsOf, letU, snd, List.append_nil]); rfl) (.callvM (FnV.of0 (by kernel_rfl) (c_F2 X Y C ox oy oc lX lY lc)) rfl rfl rfl (fun g => ⟨hx.mono g.R, hy.mono g.R, hp.2.2.mono g.R⟩) ?_)
  rintro v mq2 hf2 ⟨q, cq, rfl, hr⟩
  refine ⟨[.p q, .i (_ : Nat), .i (cq : Nat), .b _], uOk_of rfl, (opt_fresh _ _ _ _ _ _).symm, .env (by (try simp only [liE, letsOf, letU, snd, List.append_nil]); rfl) (.ret rfl ⟨q, cq, rfl, hr.joinR fun b hb => (hf2 b hb).1⟩)⟩
end Go.Proofs.YtpbbnmjkbfbelaaDoor
/- Chapter 30: Solve and Front. -/
namespace Go.Sy
open Go Go.RowKit
theorem checkL_three {a b c : List Snd} (h : checkL [a, b, c] = 0) : a.length ≤ 32 ∧ b.length ≤ 32 ∧ c.length ≤ 32 := by
  have q : ∀ {w : List Snd} {l : List (List Snd)}, checkL (w :: l) = 0 → w.length ≤ 32 ∧ checkL l = 0 := fun {w l} h => by
    unfold checkL at h
    split at h
    · rename_i h2; exact absurd h h2
    · rename_i h2
      simp only [ne_eq, Decidable.not_not] at h2
      unfold checkW at h2
      split at h2
      · omega
      · exact ⟨by omega, h⟩
  exact ⟨(q h).1, (q (q h).2).1, (q (q (q h).2).2).1⟩
theorem vals_fresh (ρ : Env) (L : List Nat) (x y : Value) : ((Sh.agg [.val, .val]).fresh ρ.length).1.den L (ρ ++ [.v x, .v y]) = .agg #[x, y] := by
  have e1 := getElem_env ρ [.v x, .v y] 0
  have e2 := getElem_env ρ [.v x, .v y] 1
  rw [Nat.add_zero] at e1
  simp only [Sh.fresh, Sh.freshs, SV.den, SV.dens, Env.val]
  rw [e1, e2]
  rfl
end Go.Sy
namespace Go.Proofs.YtpbbnmjkbfbelaaDoor
open Go Go.Sy Go.RowKit
/-- The program's variables lie as they were laid. -/
def VarsOk (R : Mv) : Prop := (R g_analogy_ending 0 = some fE1 ∧ R g_analogy_ending 1 = some fE2) ∧ R g_analogy_beginning 0 = some fF1 ∧ R g_analogy_beginning 1 = some fF2
theorem VarsOk.mono {R S : Mv} (h : VarsOk R) (hle : R.le S) : VarsOk S := ⟨⟨hle _ _ _ h.1.1, hle _ _ _ h.1.2⟩, hle _ _ _ h.2.1, hle _ _ _ h.2.2⟩
theorem _root_.Go.Sy.DenM.loadE {c : Cx} {L : List Nat} {ρ : Env} {blks : List Blk} {m : Mem} {R : Value → HW → Prop} {Dn : Nat → List U → HW → Prop} {A : List (List U → HW → Prop)} {ty : TypeId} {k : Tree} (hV : Good c L m → VarsOk (vw c L ρ blks m)) (hk : DenM Tryd.prog R Dn k L (ρ ++ [.v fE1, .v fE2]) c m A) :
    DenM Tryd.prog R Dn (.extp ⟨.load 80 (.tmp 0), ty, [.cst (.pointer (some ⟨g_analogy_ending, 0, none⟩))]⟩ (.agg [.val, .val]) blks k) L ρ c m A := .loadGl [.v fE1, .v fE2] [fE1, fE2] Tryd.underlying80 (by kernel_rfl) (by kernel_rfl) (fun g j v hj => by
  have h := hV g
  match j, hj with
  | 0, hj => cases hj; exact h.1.1
  | 1, hj => cases hj; exact h.1.2
  | j + 2, hj => simp at hj) rfl (vals_fresh _ _ _ _) hk
theorem _root_.Go.Sy.DenM.loadF {c : Cx} {L : List Nat} {ρ : Env} {blks : List Blk} {m : Mem} {R : Value → HW → Prop} {Dn : Nat → List U → HW → Prop} {A : List (List U → HW → Prop)} {ty : TypeId} {k : Tree} (hV : Good c L m → VarsOk (vw c L ρ blks m)) (hk : DenM Tryd.prog R Dn k L (ρ ++ [.v fF1, .v fF2]) c m A) :
    DenM Tryd.prog R Dn (.extp ⟨.load 80 (.tmp 0), ty, [.cst (.pointer (some ⟨g_analogy_beginning, 0, none⟩))]⟩ (.agg [.val, .val]) blks k) L ρ c m A := .loadGl [.v fF1, .v fF2] [fF1, fF2] Tryd.underlying80 (by kernel_rfl) (by kernel_rfl) (fun g j v hj => by
  have h := hV g
  match j, hj with
  | 0, hj => cases hj; exact h.2.1
  | 1, hj => cases hj; exact h.2.2
  | j + 2, hj => simp at hj) rfl (vals_fresh _ _ _ _) hk
theorem c_oneE (A B C : WD) (ha : Wok A.w) (hb : Wok B.w) (hc : Wok C.w) (oa : A.ok) (ob : B.ok) (oc : C.ok) : FnM Tryd.prog n_analogy_one [.agg #[fE1, fE2], A.v, B.v, C.v] (fun R => WordAt R A.p A.w ∧ WordAt R B.p B.w ∧ WordAt R C.p C.w) fun v mq _ => Res3 31 mq v (oneW A.w B.w C.w (solveW A.w B.w C.w)) := by
  refine FnM.of S_analogy_one mx [.v fE1, .v fE2, .p A.p, .i A.w.length, .i A.cap, .p B.p, .i B.w.length, .i B.cap, .p C.p, .i C.w.length, .i C.cap] rfl rfl fun c hp => .alloc fun b0 => .alloc fun b1 => ?_
  refine .callV (c_check0 (some ⟨b1, 0, none⟩) 3 [A, B, C] (by simp [ha, hb, hc]) (by simp)) (fun g => ⟨g.cells (j := 1) rfl rfl rfl, ?_⟩) (.env (by (try simp only [liE, letsOf, letU, snd, List.append_nil]); rfl) (.ite (fun h1 => .ret rfl ?_) (fun h1 => ?_)))
  · simp only [List.mem_cons, List.not_mem_nil, or_false]
    rintro x (rfl | rfl | rfl)
    · exact hp.1.mono g.R
    · exact hp.2.1.mono g.R
    · exact hp.2.2.mono g.R
  · ((try simp only [evE, liE, letsOf, letU, snd] at h1); (try simp only [cmE] at h1))
    replace h1 : checkL [A.w, B.w, C.w] ≠ 0 := h1
    have : ∀ o, oneW A.w B.w C.w o = ([], false, checkL [A.w, B.w, C.w]) := fun o => by unfold oneW; rw [if_pos h1]
    rw [this]; exact ⟨none, 0, rfl, .of (Row.nil _ _ _)⟩
  ((try simp only [evE, liE, letsOf, letU, snd] at h1); (try simp only [cmE] at h1))
  replace h1 : checkL [A.w, B.w, C.w] = 0 := h1
  rw [show checkL (List.map (fun x : WD => x.w) [A, B, C]) = 0 from h1]
  obtain ⟨la, lb, lc⟩ := checkL_three h1
  have hs : ∀ o, oneW A.w B.w C.w o = if (o.getD []).length > 32 then ([], false, 11) else (o.getD [], o.isSome, 0) := fun o => by unfold oneW; rw [if_neg (by simp [h1])]
  rw [hs]
  refine .callM (c_chgE A B C oa ob oc (by omega) (by omega) (by omega)) rfl rfl (fun g => ⟨hp.1.mono g.R, hp.2.1.mono g.R, hp.2.2.mono g.R⟩) ?_
  rintro v mq hf ⟨q, cq, rfl, hr⟩
  replace hr := hr.joinR (m := Mem.emp) fun b hb => (hf b hb).1
  generalize solveW A.w B.w C.w = o at *
  refine ⟨[.p q, .i ((o.getD []).length : Nat), .i (cq : Nat), .b o.isSome], uOk_of rfl, (opt_fresh _ _ _ _ _ _).symm, .env (by (try simp only [liE, letsOf, letU, snd, List.append_nil]); rfl) (.chk (by ((try simp only [evE, liE, letsOf, letU, snd]); (try simp only [cmE])); omega) (.ite (fun h2 => .ret rfl ?_) (fun h2 => .ret rfl ?_)))⟩ <;> ((try simp only [evE, liE, letsOf, letU, snd] at h2); (try simp only [cmE] at h2))
  · rw [if_pos (by omega)]; exact ⟨none, 0, rfl, .of (Row.nil _ _ _)⟩
  · rw [if_neg (by omega)]; exact ⟨q, cq, rfl, hr⟩
theorem c_Solve (A B C : WD) (ha : Wok A.w) (hb : Wok B.w) (hc : Wok C.w) (oa : A.ok) (ob : B.ok) (oc : C.ok) : FnM Tryd.prog n_analogy_Solve [A.v, B.v, C.v] (fun R => WordAt R A.p A.w ∧ WordAt R B.p B.w ∧ WordAt R C.p C.w ∧ VarsOk R) fun v mq _ => Res3 31 mq v (oneW A.w B.w C.w (solveW A.w B.w C.w)) := by
  refine FnM.of S_analogy_Solve mx [.p A.p, .i A.w.length, .i A.cap, .p B.p, .i B.w.length, .i B.cap, .p C.p, .i C.w.length, .i C.cap] rfl rfl fun c hp => ?_
  refine .loadE (fun g => hp.2.2.2.mono g.R) (.env (by (try simp only [liE, letsOf, letU, snd, List.append_nil]); rfl) (.callM (c_oneE A B C ha hb hc oa ob oc) rfl rfl (fun g => ⟨hp.1.mono g.R, hp.2.1.mono g.R, hp.2.2.1.mono g.R⟩) ?_))
  rintro v mq hf ⟨q, cq, rfl, hr⟩
  generalize oneW A.w B.w C.w (solveW A.w B.w C.w) = r at *
  exact ⟨[.p q, .i (r.1.length : Nat), .i (cq : Nat), .b r.2.1, .i r.2.2], uOk_of rfl, (res3_fresh _ _ _ _ _ _ _).symm, .env (by (try simp only [liE, letsOf, letU, snd, List.append_nil]); rfl) (.ret rfl ⟨q, cq, rfl, hr.joinR fun b hb => (hf b hb).1⟩)⟩
theorem c_oneF (A B C : WD) (ha : Wok A.w) (hb : Wok B.w) (hc : Wok C.w) (oa : A.ok) (ob : B.ok) (oc : C.ok) : FnM Tryd.prog n_analogy_one [.agg #[fF1, fF2], A.v, B.v, C.v] (fun R => WordAt R A.p A.w ∧ WordAt R B.p B.w ∧ WordAt R C.p C.w) fun v mq _ => Res3 31 mq v (oneW A.w B.w C.w (frontW A.w B.w C.w)) := by
  refine FnM.of S_analogy_one mx [.v fF1, .v fF2, .p A.p, .i A.w.length, .i A.cap, .p B.p, .i B.w.length, .i B.cap, .p C.p, .i C.w.length, .i C.cap] rfl rfl fun c hp => .alloc fun b0 => .alloc fun b1 => ?_
  refine .callV (c_check0 (some ⟨b1, 0, none⟩) 3 [A, B, C] (by simp [ha, hb, hc]) (by simp)) (fun g => ⟨g.cells (j := 1) rfl rfl rfl, ?_⟩) (.env (by (try simp only [liE, letsOf, letU, snd, List.append_nil]); rfl) (.ite (fun h1 => .ret rfl ?_) (fun h1 => ?_)))
  · simp only [List.mem_cons, List.not_mem_nil, or_false]
    rintro x (rfl | rfl | rfl)
    · exact hp.1.mono g.R
    · exact hp.2.1.mono g.R
    · exact hp.2.2.mono g.R
  · ((try simp only [evE, liE, letsOf, letU, snd] at h1); (try simp only [cmE] at h1))
    replace h1 : checkL [A.w, B.w, C.w] ≠ 0 := h1
    have : ∀ o, oneW A.w B.w C.w o = ([], false, checkL [A.w, B.w, C.w]) := fun o => by unfold oneW; rw [if_pos h1]
    rw [this]; exact ⟨none, 0, rfl, .of (Row.nil _ _ _)⟩
  ((try simp only [evE, liE, letsOf, letU, snd] at h1); (try simp only [cmE] at h1))
  replace h1 : checkL [A.w, B.w, C.w] = 0 := h1
  rw [show checkL (List.map (fun x : WD => x.w) [A, B, C]) = 0 from h1]
  obtain ⟨la, lb, lc⟩ := checkL_three h1
  have hs : ∀ o, oneW A.w B.w C.w o = if (o.getD []).length > 32 then ([], false, 11) else (o.getD [], o.isSome, 0) := fun o => by unfold oneW; rw [if_neg (by simp [h1])]
  rw [hs]
  refine .callM (c_chgF A B C oa ob oc (by omega) (by omega) (by omega)) rfl rfl (fun g => ⟨hp.1.mono g.R, hp.2.1.mono g.R, hp.2.2.mono g.R⟩) ?_
  rintro v mq hf ⟨q, cq, rfl, hr⟩
  replace hr := hr.joinR (m := Mem.emp) fun b hb => (hf b hb).1
  generalize frontW A.w B.w C.w = o at *
  refine ⟨[.p q, .i ((o.getD []).length : Nat), .i (cq : Nat), .b o.isSome], uOk_of rfl, (opt_fresh _ _ _ _ _ _).symm, .env (by (try simp only [liE, letsOf, letU, snd, List.append_nil]); rfl) (.chk (by ((try simp only [evE, liE, letsOf, letU, snd]); (try simp only [cmE])); omega) (.ite (fun h2 => .ret rfl ?_) (fun h2 => .ret rfl ?_)))⟩ <;> ((try simp only [evE, liE, letsOf, letU, snd] at h2); (try simp only [cmE] at h2))
  · rw [if_pos (by omega)]; exact ⟨none, 0, rfl, .of (Row.nil _ _ _)⟩
  · rw [if_neg (by omega)]; exact ⟨q, cq, rfl, hr⟩
theorem c_Front (A B C : WD) (ha : Wok A.w) (hb : Wok B.w) (hc : Wok C.w) (oa : A.ok) (ob : B.ok) (oc : C.ok) : FnM Tryd.prog n_analogy_Front [A.v, B.v, C.v] (fun R => WordAt R A.p A.w ∧ WordAt R B.p B.w ∧ WordAt R C.p C.w ∧ VarsOk R) fun v mq _ => Res3 31 mq v (oneW A.w B.w C.w (frontW A.w B.w C.w)) := by
  refine FnM.of S_analogy_Front mx [.p A.p, .i A.w.length, .i A.cap, .p B.p, .i B.w.length, .i B.cap, .p C.p, .i C.w.length, .i C.cap] rfl rfl fun c hp => ?_
  refine .loadF (fun g => hp.2.2.2.mono g.R) (.env (by (try simp only [liE, letsOf, letU, snd, List.append_nil]); rfl) (.callM (c_oneF A B C ha hb hc oa ob oc) rfl rfl (fun g => ⟨hp.1.mono g.R, hp.2.1.mono g.R, hp.2.2.1.mono g.R⟩) ?_))
  rintro v mq hf ⟨q, cq, rfl, hr⟩
  generalize oneW A.w B.w C.w (frontW A.w B.w C.w) = r at *
  exact ⟨[.p q, .i (r.1.length : Nat), .i (cq : Nat), .b r.2.1, .i r.2.2], uOk_of rfl, (res3_fresh _ _ _ _ _ _ _).symm, .env (by (try simp only [liE, letsOf, letU, snd, List.append_nil]); rfl) (.ret rfl ⟨q, cq, rfl, hr.joinR fun b hb => (hf b hb).1⟩)⟩
theorem c_back (A : WD) (la : A.w.length < 2 ^ 40) : FnM Tryd.prog n_ref30_backwards [A.v] (fun R => WordAt R A.p A.w) fun v mq _ => ∃ q cq, v = slv q A.w.reverse.length cq ∧ RowW mq 31 q cq A.w.reverse := by
  obtain ⟨p, ca, a⟩ := A
  simp only [] at la
  refine FnM.of S_ref30_backwards mx [.p p, .i a.length, .i ca] rfl rfl fun c hp => .chk (by ((try simp only [evE, liE, letsOf, letU, snd]); (try simp only [cmE])); omega) ?_
  refine .loop (fun n us m => ∃ (q : Option Addr) (cq : Nat), n ≤ a.length ∧ us = [.p q, .i ((a.length - n : Nat) : Int), .i (cq : Nat), .i ((n : Int) - 1)] ∧ Row m 31 2 q cq (a.length - n) (wcells (a.reverse.take (a.length - n)))) a.length ⟨none, 0, Nat.le_refl _, ?_, by simpa [wcells] using Row.nil _ _ _⟩ ?_
  · (simp only [evE, liE, letsOf, letU, snd, Sh.uss, Sh.us, atAddr, map_add0, List.append_nil]); rw [subI (by omega) (by omega), Nat.sub_self]
  rintro n _ m _ ⟨q, cq, hn, rfl, hrow⟩
  refine .env (by (try simp only [liE, letsOf, letU, snd, List.append_nil]); rfl) (.ite (fun h1 => ?_) (fun h1 => .ret rfl ⟨q, cq, ?_⟩)) <;> ((try simp only [evE, liE, letsOf, letU, snd] at h1); (try simp only [cmE] at h1))
  · obtain ⟨j, rfl⟩ : ∃ j, n = j + 1 := ⟨n - 1, by omega⟩
    have hj : j < a.length := by omega
    have hl : a.length - j = a.length - (j + 1) + 1 := by omega
    have ht : a.reverse.take (a.length - j) = a.reverse.take (a.length - (j + 1)) ++ [a[j]] := by
      rw [hl, List.take_succ_eq_append_getElem (by simp; omega), List.getElem_reverse]
      congr 3
      omega
    refine .env (by (try simp only [liE, letsOf, letU, snd, List.append_nil]); rw [show ((j + 1 : Nat) : Int) - 1 = (j : Int) by omega]) (.loadW a j hj (fun g => hp.mono g.R) (.env (by (try simp only [liE, letsOf, letU, snd, List.append_nil]); rfl) (.alloc fun b0 => .append (q := q) (cap := cq) (n := a.length - (j + 1)) (qx := some ⟨b0, 0, none⟩) (kx := 1) (capx := 1) (news := wcells [a[j]]) el22 hrow (fun g => g.cells (j := 0) rfl rfl rfl) (by simp [wcells, scell]) (wcells_one _) (fun h => by cases h) (by simp [maxLen]; omega) (by omega) (fun q' cq' m' hr' _ _ => .again rfl ⟨j, by omega, q', cq', by omega, ?_, ?_⟩))))
    · (simp only [evE, liE, letsOf, letU, snd, Sh.uss, Sh.us, atAddr, map_add0, List.append_nil]); rw [subI (by omega) (by omega), hl]
    · rw [hl] at ht ⊢; rw [ht, wcells_append]; exact hr'
  · obtain rfl : n = 0 := by omega
    rw [Nat.sub_zero] at hrow ⊢
    rw [List.take_of_length_le (by simp)] at hrow
    simp only [List.length_reverse]
    exact ⟨rfl, .of (by rw [List.length_reverse]; exact hrow)⟩
end Go.Proofs.YtpbbnmjkbfbelaaDoor
/- Chapter 30: the reference's changes, Solve and Front; its checks. -/
namespace Go.Proofs.YtpbbnmjkbfbelaaDoor
open Go Go.Sy Go.RowKit
set_option maxHeartbeats 400000 in
theorem c_refSolve0 (A B C : WD) (oa : A.ok) (ob : B.ok) (oc : C.ok) (la : A.w.length < 2 ^ 38) (lb : B.w.length < 2 ^ 38) (lc : C.w.length < 2 ^ 38) : FnM Tryd.prog n_ref30_solve [A.v, B.v, C.v] (fun R => WordAt R A.p A.w ∧ WordAt R B.p B.w ∧ WordAt R C.p C.w) fun v mq _ => Opt 31 mq v (solveW A.w B.w C.w) := by
  refine FnM.of S_ref30_solve mx [.p A.p, .i A.w.length, .i A.cap, .p B.p, .i B.w.length, .i B.cap, .p C.p, .i C.w.length, .i C.cap] rfl rfl fun c hp => ?_
  refine .loop (fun n us mm => ∃ j : Nat, us = [.i j] ∧ n + j = min A.w.length B.w.length ∧ cpl A.w B.w = j + cpl (A.w.drop j) (B.w.drop j) ∧ mm = Mem.emp) (min A.w.length B.w.length) ⟨0, rfl, rfl, by simp, rfl⟩ ?_
  rintro n _ _ _ ⟨j, rfl, hn, hc, rfl⟩
  refine .join (fun us mm => mm = Mem.emp ∧ ∃ x : Bool, us = [.b x] ∧ (x = true ↔ ∃ (ha : j < A.w.length) (hb : j < B.w.length), A.w[j] = B.w[j])) (.chk (by ((try simp only [evE, liE, letsOf, letU, snd]); (try simp only [cmE])); omega) (.ite (fun h1 => .chk (by ((try simp only [evE, liE, letsOf, letU, snd]); (try simp only [cmE])); omega) (.ite (fun h2 => ?_) (fun h2 => .again rfl ⟨rfl, false, rfl, ?_⟩))) (fun h1 => .again rfl ⟨rfl, false, rfl, ?_⟩))) ?_
  · ((try simp only [evE, liE, letsOf, letU, snd] at h1); (try simp only [cmE] at h1)); ((try simp only [evE, liE, letsOf, letU, snd] at h2); (try simp only [cmE] at h2))
    have ha : j < A.w.length := by omega
    have hb : j < B.w.length := by omega
    refine .loadW A.w j ha (fun g => hp.1.mono g.R) (.env (by (try simp only [liE, letsOf, letU, snd, List.append_nil]); rfl) (.loadW B.w j hb (fun g => hp.2.1.mono g.R) (.again rfl ⟨rfl, (bif cm .eql (A.w[j].1 : Int) (B.w[j].1 : Int) then cm .eql (A.w[j].2 : Int) (B.w[j].2 : Int) else false), rfl, ?_⟩)))
    rw [pick_and]
    simp only [cm, Bool.and_eq_true, beq_iff_eq, ha, hb, exists_true_left]
    exact snd_eq
  · ((try simp only [evE, liE, letsOf, letU, snd] at h1); (try simp only [cmE] at h1)); ((try simp only [evE, liE, letsOf, letU, snd] at h2); (try simp only [cmE] at h2))
    simp only [Bool.false_eq_true, false_iff]
    rintro ⟨ha, hb, _⟩; omega
  · ((try simp only [evE, liE, letsOf, letU, snd] at h1); (try simp only [cmE] at h1))
    simp only [Bool.false_eq_true, false_iff]
    rintro ⟨ha, hb, _⟩; omega
  rintro _ _ _ ⟨rfl, x, rfl, hx⟩
  refine .env (by (try simp only [liE, letsOf, letU, snd, List.append_nil]); rfl) (.ite (fun h1 => .again rfl ⟨n - 1, ?_, j + 1, ?_, ?_, ?_, rfl⟩) (fun h1 => ?_))
  · obtain ⟨ha, hb, _⟩ := hx.1 h1; omega
  · obtain ⟨ha, hb, _⟩ := hx.1 h1
    (simp only [evE, liE, letsOf, letU, snd, Sh.uss, Sh.us, atAddr, map_add0, List.append_nil]); rw [add_i64 j (by omega)]
  · obtain ⟨ha, hb, _⟩ := hx.1 h1; omega
  · obtain ⟨ha, hb, e⟩ := hx.1 h1
    rw [hc, cpl_drop ha hb, if_pos e]; omega
  replace h1 : x = false := h1
  subst h1
  have hc' : cpl A.w B.w = j := by
    rw [hc]
    rcases Nat.lt_or_ge j A.w.length with ha | ha
    · rcases Nat.lt_or_ge j B.w.length with hb | hb
      · rw [cpl_drop ha hb, if_neg fun e => by cases hx.2 ⟨ha, hb, e⟩]; omega
      · rw [cpl_end (.inr hb)]; omega
    · rw [cpl_end (.inl ha)]; omega
  have hle := cpl_le A.w B.w
  have hca := oa.le; have hcb := ob.le; have hcc := oc.le
  rw [hc'] at hle
  have hs : solveW A.w B.w C.w = applyE (A.from j).w (B.from j).w C.w := by unfold solveW; rw [hc']; rfl
  have hX : (A.from j).w.length = A.w.length - j := by simp [WD.from]
  have hY : (B.from j).w.length = B.w.length - j := by simp [WD.from]
  rw [hs]
  have ox : (A.from j).ok := WD.from_ok oa hle.1
  have oy : (B.from j).ok := WD.from_ok ob hle.2
  have es : ar .sub .i64 (C.w.length : Int) ((A.w.length : Int) - (j : Int)) = (C.w.length : Int) - (A.w.length - j : Nat) := by rw [subI (by omega) (by omega)]; omega
  clear hx hc hn hs
  refine .chk (by ((try simp only [evE, liE, letsOf, letU, snd]); (try simp only [cmE])); omega) (.chk (by ((try simp only [evE, liE, letsOf, letU, snd]); (try simp only [cmE])); omega) (.chk (by ((try simp only [evE, liE, letsOf, letU, snd]); (try simp only [cmE])); omega) (.chk (by ((try simp only [evE, liE, letsOf, letU, snd]); (try simp only [cmE])); omega) ?_)))
  obtain ⟨r, hr⟩ : ∃ r, r = C.w.length - (A.w.length - j) := ⟨_, rfl⟩
  refine .join (fun us mm => mm = Mem.emp ∧ ∃ x : Bool, us = [.b x] ∧ (x = false ↔ A.w.length - j ≤ C.w.length ∧ C.w.drop r = (A.from j).w)) (.ite (fun h1 => .again rfl ⟨rfl, true, rfl, ?_⟩) (fun h1 => ?_)) ?_
  · replace h1 : cm .lss (ar .sub .i64 (C.w.length : Int) ((A.w.length : Int) - (j : Int))) 0 = true := h1
    rw [es] at h1
    simp only [cm, decide_eq_true_eq] at h1
    simp; omega
  · replace h1 : cm .lss (ar .sub .i64 (C.w.length : Int) ((A.w.length : Int) - (j : Int))) 0 = false := h1
    rw [es] at h1
    simp only [cm, decide_eq_false_iff_not] at h1
    have er : ar .sub .i64 (C.w.length : Int) ((A.w.length : Int) - (j : Int)) = (r : Int) := by rw [es]; omega
    refine .chk ?_ (.callV (c_refEqual (C.from r).p (A.from j).p (C.from r).cap (A.from j).cap (C.from r).w (A.from j).w (by simp [WD.from]; omega)) (fun g => ⟨WordAt.from (hp.2.2.mono g.R) hcc r, WordAt.from (hp.1.mono g.R) hca j⟩) (.env (by (try simp only [liE, letsOf, letU, snd, List.append_nil]); rfl) (.again rfl ⟨rfl, !decide ((C.from r).w = (A.from j).w), rfl, ?_⟩)) (hargs := ?_))
    · show (bif cm .leq 0 (ar .sub .i64 (C.w.length : Int) ((A.w.length : Int) - (j : Int))) then (bif cm .leq (ar .sub .i64 (C.w.length : Int) ((A.w.length : Int) - (j : Int))) (C.w.length : Int) then cm .leq (C.w.length : Int) (C.cap : Int) else false) else false) = true
      rw [er]
      simp only [cm, pick_and, Bool.and_eq_true, decide_eq_true_eq]; omega
    · rw [Bool.not_eq_false', decide_eq_true_eq]
      exact ⟨fun h => ⟨by omega, h⟩, fun h => h.2⟩
    · simp only [SV.dens]
      rw [den_from (x := C) (n := r) rfl rfl (by show ar .sub .i64 (C.w.length : Int) ((A.w.length : Int) - (j : Int)) = _; exact er) rfl, den_from (x := A) (n := j) rfl rfl rfl rfl]
      rfl
  rintro _ _ _ ⟨rfl, x, rfl, hx⟩
  refine .env (by (try simp only [liE, letsOf, letU, snd, List.append_nil]); rfl) (.ite (fun h1 => .ret rfl ?_) (fun h1 => .alloc fun b0 => ?_))
  · replace h1 : x = true := h1
    subst h1
    have : applyE (A.from j).w (B.from j).w C.w = none := by
      unfold applyE
      rw [if_neg]
      rintro ⟨h2, h3⟩
      rw [hX, ← hr] at h3
      cases hx.2 ⟨by omega, h3⟩
    rw [this]; exact Opt.none _ _
  replace h1 : x = false := h1
  subst h1
  obtain ⟨h2, h3⟩ := hx.1 rfl
  have er : ar .sub .i64 (C.w.length : Int) ((A.w.length : Int) - (j : Int)) = (r : Int) := by rw [es]; omega
  have happ : applyE (A.from j).w (B.from j).w C.w = some (C.w.take r ++ (B.from j).w) := by
    unfold applyE
    rw [hX, ← hr, if_pos ⟨h2, h3⟩]
  rw [happ]
  have hul : (C.upto r).w.length = r := by simp [WD.upto]; omega
  refine .chk ?_ (.appendLit (b0 := b0) (qx := (C.upto r).p) (kx := (C.upto r).w.length) (capx := (C.upto r).cap) (news := wcells (C.upto r).w) el22 (fun g => WordAt.upto (hp.2.2.mono g.R) r) (wcells_len _) (wcells_one _) (WD.upto_ok oc r).nil (by simp [maxLen]; omega) (by omega) (fun q1 k1 m1 hr1 h01 _ => ?_) (hxv := den_upto (x := C) (n := r) rfl rfl (by show ar .sub .i64 (C.w.length : Int) ((A.w.length : Int) - (j : Int)) = _; exact er) (by omega)))
  · show (bif cm .leq 0 (ar .sub .i64 (C.w.length : Int) ((A.w.length : Int) - (j : Int))) then cm .leq (ar .sub .i64 (C.w.length : Int) ((A.w.length : Int) - (j : Int))) (C.cap : Int) else false) = true
    rw [er]
    simp only [cm, pick_and, Bool.and_eq_true, decide_eq_true_eq]; omega
  have hlen : (C.w.take r ++ (B.from j).w).length = (C.upto r).w.length + (B.from j).w.length := by rw [List.length_append]; rfl
  have hnil : (B.from j).p = none → (B.from j).cap = 0 := oy.nil
  have hxB : ∀ ρ : Env, ρ.ptr 3 = B.p → ρ.int 5 = (B.cap : Int) → ρ.int 9 = (j : Int) → ρ.int 4 = (B.w.length : Int) → (SV.sl 3 (.ifeq (.var 5) (.var 9) (.lit 0) (.off (.var 9) 2 (.lit 0))) (.dif (.var 4) (.var 9)) (.dif (.var 5) (.var 9))).den ([] ++ [b0]) ρ = slv (B.from j).p (B.from j).w.length (B.from j).cap := fun ρ h1 h2 h3 h4 => den_from (x := B) (n := j) h1 h2 h3 h4
  by_cases h0 : (C.upto r).w.length = 0
  · obtain ⟨rfl, rfl⟩ := h01 h0
    rw [h0]
    have e0 : C.w.take r = [] := List.length_eq_zero_iff.1 h0
    refine .env (by (try simp only [liE, letsOf, letU, snd, List.append_nil]); rfl) (.appendOwn (b0 := b0) (n := 0) (xs := []) (qx := (B.from j).p) (kx := (B.from j).w.length) (capx := (B.from j).cap) (news := wcells (B.from j).w) el22 rfl (fun _ i x h => by simp at h) (fun g => WordAt.from (hp.2.1.mono g.R) hcb j) (wcells_len _) (wcells_one _) hnil (by simp [maxLen]; omega) (by omega) (fun q2 k2 m2 hr2 h02 _ => ?_) (hxv := hxB _ rfl rfl rfl rfl))
    refine .env (by (try simp only [liE, letsOf, letU, snd, List.append_nil]); rfl) (.ret rfl ⟨q2, k2, ?_, ⟨fun hne => ?_, fun hq => ?_, ?_⟩⟩)
    · show _ = Value.tuple #[slv q2 (C.w.take r ++ (B.from j).w).length k2, .bool true]
      rw [hlen, h0]; rfl
    · have := (hr2 (fun h => hne (by rw [Option.getD_some, e0, List.nil_append]; exact List.length_eq_zero_iff.1 h))).1
      rw [Option.getD_some, e0, List.nil_append]
      simpa using this
    · by_cases h : (B.from j).w.length = 0
      · rw [(h02 h).1] at hq; cases hq
      · exact row_cap0 (hr2 h).1 hq
    · show (C.w.take r ++ (B.from j).w).length ≤ k2
      rw [hlen, h0]
      by_cases h : (B.from j).w.length = 0
      · rw [h]; omega
      · exact (hr2 h).1.cap_le
  · refine .env (by (try simp only [liE, letsOf, letU, snd, List.append_nil]); rfl) (.append (q := q1) (cap := k1) (n := (C.upto r).w.length) (qx := (B.from j).p) (kx := (B.from j).w.length) (capx := (B.from j).cap) (news := wcells (B.from j).w) el22 (hr1 h0) (fun g => WordAt.from (hp.2.1.mono g.R) hcb j) (wcells_len _) (wcells_one _) hnil (by simp [maxLen]; omega) (by omega) (fun q2 k2 m2 hr2 _ _ => ?_) (hxv := hxB _ rfl rfl rfl rfl))
    refine .env (by (try simp only [liE, letsOf, letU, snd, List.append_nil]); rfl) (.ret rfl ⟨q2, k2, ?_, .of ?_⟩)
    · show _ = Value.tuple #[slv q2 (C.w.take r ++ (B.from j).w).length k2, .bool true]
      rw [hlen]; rfl
    · show Row m2 31 2 q2 k2 (C.w.take r ++ (B.from j).w).length (wcells (C.w.take r ++ (B.from j).w))
      rw [hlen, wcells_append]; exact hr2
theorem c_refFront0 (A B C : WD) (la : A.w.length < 2 ^ 38) (lb : B.w.length < 2 ^ 38) (lc : C.w.length < 2 ^ 38) : FnM Tryd.prog n_ref30_front [A.v, B.v, C.v] (fun R => WordAt R A.p A.w ∧ WordAt R B.p B.w ∧ WordAt R C.p C.w) fun v mq _ => Opt 31 mq v (frontW A.w B.w C.w) := by
  refine FnM.of S_ref30_front mx [.p A.p, .i A.w.length, .i A.cap, .p B.p, .i B.w.length, .i B.cap, .p C.p, .i C.w.length, .i C.cap] rfl rfl fun c hp => ?_
  refine .callM (c_back A (by omega)) rfl rfl (fun g => hp.1.mono g.R) ?_
  rintro v mq hf ⟨qa, ka, rfl, ha⟩
  refine ⟨[.p qa, .i (A.w.reverse.length : Nat), .i (ka : Nat)], ⟨_, _, _, rfl⟩, (slv_fresh _ _ _ _ _).symm, ?_⟩
  replace ha := ha.joinR (m := Mem.emp) fun b hb => (hf b hb).1
  refine .env (by (try simp only [liE, letsOf, letU, snd, List.append_nil]); rfl) (.callM (c_back B (by omega)) rfl rfl (fun g => hp.2.1.mono g.R) ?_)
  rintro v mq2 hf2 ⟨qb, kb, rfl, hb⟩
  refine ⟨[.p qb, .i (B.w.reverse.length : Nat), .i (kb : Nat)], ⟨_, _, _, rfl⟩, (slv_fresh _ _ _ _ _).symm, ?_⟩
  replace hb := hb.joinR fun b hb => (hf2 b hb).1
  replace ha := ha.joinL (mq := mq2)
  generalize (Mem.emp.join mq).join mq2 = m at *
  refine .env (by (try simp only [liE, letsOf, letU, snd, List.append_nil]); rfl) (.callM (c_back C (by omega)) rfl rfl (fun g => hp.2.2.mono g.R) ?_)
  rintro v mq3 hf3 ⟨qc, kc, rfl, hc⟩
  refine ⟨[.p qc, .i (C.w.reverse.length : Nat), .i (kc : Nat)], ⟨_, _, _, rfl⟩, (slv_fresh _ _ _ _ _).symm, ?_⟩
  replace hc := hc.joinR fun b hb => (hf3 b hb).1
  replace ha := ha.joinL (mq := mq3)
  replace hb := hb.joinL (mq := mq3)
  generalize m.join mq3 = m2 at *
  clear hf hf2 hf3
  refine .env (by (try simp only [liE, letsOf, letU, snd, List.append_nil]); rfl) (.callM (c_refSolve0 ⟨qa, ka, A.w.reverse⟩ ⟨qb, kb, B.w.reverse⟩ ⟨qc, kc, C.w.reverse⟩ ha.ok hb.ok hc.ok (by simpa using la) (by simpa using lb) (by simpa using lc)) rfl rfl (fun g => ⟨ha.reads g, hb.reads g, hc.reads g⟩) ?_)
  rintro v mq4 hf4 ⟨q, k, rfl, hr⟩
  have hs := solve_rev A.w B.w C.w
  simp only [] at hr
  have hl : ((solveW A.w.reverse B.w.reverse C.w.reverse).getD []).length < 2 ^ 39 := by
    unfold solveW applyE
    split
    · simp only [Option.getD_some, List.length_append, List.length_take, List.length_drop, List.length_reverse]; omega
    · simp
  rw [← hs]
  generalize solveW A.w.reverse B.w.reverse C.w.reverse = o at *
  refine ⟨[.p q, .i ((o.getD []).length : Nat), .i (k : Nat), .b o.isSome], uOk_of rfl, (opt_fresh _ _ _ _ _ _).symm, ?_⟩
  replace hr := hr.joinR fun b hb => (hf4 b hb).1
  generalize m2.join mq4 = m3 at hr ⊢
  clear hf4 ha hb hc m2
  refine .env (by (try simp only [liE, letsOf, letU, snd, List.append_nil]); rfl) (.callM (c_back ⟨q, k, o.getD []⟩ ?_) rfl rfl (fun g => hr.reads g) ?_)
  · show (o.getD []).length < 2 ^ 40
    omega
  rintro v mq5 hf5 ⟨q5, k5, rfl, hr5⟩
  have e : (o.map List.reverse).getD [] = (o.getD []).reverse := by cases o <;> rfl
  refine ⟨[.p q5, .i ((o.getD []).reverse.length : Nat), .i (k5 : Nat)], ⟨_, _, _, rfl⟩, (slv_fresh _ _ _ _ _).symm, .env (by (try simp only [liE, letsOf, letU, snd, List.append_nil]); rfl) (.ret rfl ⟨q5, k5, ?_, ?_⟩)⟩
  · rw [e, Option.isSome_map]; rfl
  · rw [e]; exact hr5.joinR fun b hb => (hf5 b hb).1
end Go.Proofs.YtpbbnmjkbfbelaaDoor
/- Chapter 30: the results of a model, one by one; what a model supports. -/
namespace Go.Sy
open Go Go.RowKit
/-- All that is known of cells, and of maps. -/
noncomputable def Mv.all (h : HW) : Mv where
  c b o := by
    classical
    exact if q : ∃ v, ∀ w, h.H w → w.cell? ⟨b, o, none⟩ = some v then some (Classical.choose q) else none
  m b := by
    classical
    exact if q : ∃ es, ∀ w, h.H w → (Mv.of w).m b = some es then some (Classical.choose q) else none
theorem Mv.all_c (h : HW) (b o : Nat) [Decidable (∃ v, ∀ w, h.H w → w.cell? ⟨b, o, none⟩ = some v)] : (Mv.all h).c b o = if q : ∃ v, ∀ w, h.H w → w.cell? ⟨b, o, none⟩ = some v then some (Classical.choose q) else none := by
  unfold Mv.all; simp only; congr
theorem Mv.all_m (h : HW) (b : Nat) [Decidable (∃ es, ∀ w, h.H w → (Mv.of w).m b = some es)] : (Mv.all h).m b = if q : ∃ es, ∀ w, h.H w → (Mv.of w).m b = some es then some (Classical.choose q) else none := by
  unfold Mv.all; simp only; congr
open Classical in
theorem Mv.all_le {h : HW} {w : World} (hw : h.H w) : (Mv.all h).le (Mv.of w) := ⟨fun b o v hv => by
  rw [Mv.all_c] at hv
  split at hv
  · rename_i q
    cases hv
    exact Classical.choose_spec q w hw
  · exact absurd hv (by simp), fun b es hv => by
  rw [Mv.all_m] at hv
  split at hv
  · rename_i q
    cases hv
    exact Classical.choose_spec q w hw
  · exact absurd hv (by simp)⟩
open Classical in
theorem Mv.all_of {h : HW} (hw : ∃ w, h.H w) {b o : Nat} {v : Value} (hv : ∀ w, h.H w → w.cell? ⟨b, o, none⟩ = some v) : Mv.all h b o = some v := by
  obtain ⟨w, hw⟩ := hw
  have q : ∃ v, ∀ w, h.H w → w.cell? ⟨b, o, none⟩ = some v := ⟨v, hv⟩
  rw [Mv.all_c, dif_pos q]
  have h1 := Classical.choose_spec q w hw
  rw [hv w hw] at h1
  exact h1.symm
open Classical in
theorem Mv.all_ofm {h : HW} (hw : ∃ w, h.H w) {b : Nat} {es : Array MapEntry} (hv : ∀ w, h.H w → (Mv.of w).m b = some es) : (Mv.all h).m b = some es := by
  obtain ⟨w, hw⟩ := hw
  have q : ∃ es, ∀ w, h.H w → (Mv.of w).m b = some es := ⟨es, hv⟩
  rw [Mv.all_m, dif_pos q]
  have h1 := Classical.choose_spec q w hw
  rw [hv w hw] at h1
  exact h1.symm
theorem Mv.le_all {h : HW} (hw : ∃ w, h.H w) {S : Mv} (hS : ∀ w, h.H w → S.le (Mv.of w)) : S.le (Mv.all h) := ⟨fun _ _ _ hv => Mv.all_of hw fun w hw' => (hS w hw').c _ _ _ hv, fun _ _ hv => Mv.all_ofm hw fun w hw' => (hS w hw').m _ _ hv⟩
theorem cells_all {h : HW} (hw : ∃ w, h.H w) {p : Option Addr} {xs : List Value} (hc : ∀ w, h.H w → Cells (Mv.of w) p xs) : Cells (Mv.all h) p xs := fun i x hx => by
  obtain ⟨w, hw'⟩ := hw
  obtain ⟨b, o, hp, _⟩ := hc w hw' i x hx
  refine ⟨b, o, hp, Mv.all_of ⟨w, hw'⟩ fun w2 h2 => ?_⟩
  obtain ⟨b', o', hp', h3⟩ := hc w2 h2 i x hx
  rw [hp] at hp'; cases hp'
  exact h3
theorem RowW.cells_of {m : Mem} {et : TypeId} {q : Option Addr} {cap : Nat} {x : List Snd} (h : RowW m et q cap x) {w : World} (hw : (HW.mem m).H w) : Cells (Mv.of w) q (wcells x) := by
  by_cases hx : x = []
  · rw [hx]; exact fun i y hy => by simp [wcells] at hy
  · refine (h.row hx).cells fun g cur hg o => ?_
    have := hw g _ hg
    simp only [Mv.of, World.cell?, this]
    rfl
theorem cells_of_mem {c : Cx} {L : List Nat} {ρ : Env} {blks : List Blk} {m : Mem} (g : Good c L m) {b : Nat} {xs : List Value} {e : TypeId} (h : m b = some (.cells xs.toArray e (0, 0))) : Cells (vw c L ρ blks m) (some ⟨b, 0, none⟩) xs := fun i x hx => ⟨b, 0, rfl, by rw [vw_mem g h, Nat.zero_add]; simpa using hx⟩
/-- The results of a model. -/
def resW (a b c : List Snd) : List (List Snd) :=
  match solveW a b c, frontW a b c with
  | some x, some y => if x = y then [x] else [x, y]
  | some x, none => [x]
  | none, some y => [y]
  | none, none => []
def supW (a b c d : List Snd) : Bool := decide (d ∈ resW a b c)
/-- What the k-th yield has. -/
def ResX (l : List (List Snd)) (k : Nat) (ux : List U) (mx : Mem) : Prop := ∃ q cq w, l[k]? = some w ∧ ux = [.p q, .i (w.length : Nat), .i (cq : Nat)] ∧ RowW mx 31 q cq w
def box2 (b0 b1 : Nat) (A B C : WD) : Mem := (Mem.emp.upd b1 (.cells #[C.v] 22 (0, 0))).upd b0 (.cells #[A.v, B.v] 69 (0, 0))
theorem applyE_len {x y c w : List Snd} (h : applyE x y c = some w) : w.length ≤ c.length + y.length := by
  unfold applyE at h
  split at h
  · cases h; simp only [List.length_append, List.length_take, List.length_drop]; omega
  · cases h
theorem applyF_len {x y c w : List Snd} (h : applyF x y c = some w) : w.length ≤ c.length + y.length := by
  unfold applyF at h
  split at h
  · cases h; simp only [List.length_append, List.length_take, List.length_drop]; omega
  · cases h
theorem solveW_len {a b c w : List Snd} (h : solveW a b c = some w) : w.length ≤ c.length + b.length := by
  have := applyE_len h
  have := List.length_drop (l := b) (i := cpl a b)
  omega
theorem frontW_len {a b c w : List Snd} (h : frontW a b c = some w) : w.length ≤ c.length + b.length := by
  have := applyF_len h
  have := List.length_take_le' (l := b) (i := b.length - csl a b)
  omega
theorem resW_len {a b c w : List Snd} (h : w ∈ resW a b c) : w.length ≤ c.length + b.length := by
  unfold resW at h
  split at h
  · rename_i x y hx hy
    split at h
    · simp at h; subst h; exact solveW_len hx
    · simp at h
      rcases h with rfl | rfl
      · exact solveW_len hx
      · exact frontW_len hy
  · rename_i x hx hy; simp at h; subst h; exact solveW_len hx
  · rename_i y hx hy; simp at h; subst h; exact frontW_len hy
  · simp at h
end Go.Sy
namespace Go.Proofs.YtpbbnmjkbfbelaaDoor
open Go Go.Sy Go.RowKit
theorem c_results (A B C : WD) : FnM Tryd.prog n_analogy_results [.agg #[A.v, B.v], C.v] (fun _ => True) fun v mq _ => ∃ b0 b1, v = .func (.func n_analogy_results_1) #[] #[.pointer (some ⟨b0, 0, none⟩), .pointer (some ⟨b1, 0, none⟩)] ∧ mq = box2 b0 b1 A B C ∧ b0 ≠ b1 :=
  FnM.of S_analogy_results mx [.p A.p, .i A.w.length, .i A.cap, .p B.p, .i B.w.length, .i B.cap, .p C.p, .i C.w.length, .i C.cap] rfl rfl fun c _ => .alloc fun b0 => .alloc fun b1 => .retL rfl fun g => ⟨b0, b1, rfl, rfl, by
    have := g.nd
    simp at this
    omega⟩
def ResAt (A B C : WD) (S : Mv) : Prop := WordAt S A.p A.w ∧ WordAt S B.p B.w ∧ WordAt S C.p C.w ∧ VarsOk S
theorem ResAt.mono {A B C : WD} {S S' : Mv} (h : ResAt A B C S) (hle : S.le S') : ResAt A B C S' := ⟨h.1.mono hle, h.2.1.mono hle, h.2.2.1.mono hle, h.2.2.2.mono hle⟩
set_option maxHeartbeats 1000000 in
theorem it_results (A B C : WD) (oa : A.ok) (ob : B.ok) (oc : C.ok) (la : A.w.length < 2 ^ 38) (lb : B.w.length < 2 ^ 38) (lc : C.w.length < 2 ^ 38) (b0 b1 : Nat) (h01 : b0 ≠ b1) (S : Mv) (hS : ResAt A B C S) :
    IterX Tryd.prog n_analogy_results_1 #[.pointer (some ⟨b0, 0, none⟩), .pointer (some ⟨b1, 0, none⟩)] (fun w => S.le (Mv.of w)) (HW.mem (box2 b0 b1 A B C)) (resW A.w B.w C.w).length fun k x hx => ∃ ux mx, ResX (resW A.w B.w C.w) k ux mx ∧ hx = HW.mem mx ∧ x = SV.dens [] ux (Sh.freshs [.sl] 0).1 := by
  refine IterX.of S_analogy_results_1 mx [.p (some ⟨b0, 0, none⟩), .p (some ⟨b1, 0, none⟩)] (fun yv => rfl) (fun yv h => by simp [Sh.eats, Sh.eat, eatV, eatP, h]) ?_
  intro yv J E hyv hy hpre h hw hJ hdj
  have e0 : box2 b0 b1 A B C b0 = some (.cells [A.v, B.v].toArray 69 (0, 0)) := Mem.upd_same ..
  have e1 : box2 b0 b1 A B C b1 = some (.cells [C.v].toArray 22 (0, 0)) := by unfold box2; rw [Mem.upd_other _ _ (Ne.symm h01), Mem.upd_same]
  generalize box2 b0 b1 A B C = m0 at *
  have hxs : ∀ (q : Option Addr) (n cq : Nat), SV.dens [] [.p q, .i n, .i cq] (Sh.freshs [.sl] 0).1 = [slv q n cq] := fun q n cq => by
    have := slv_fresh [] [] q n cq
    simp only [Sh.freshs, SV.dens]
    rw [← this]; rfl
  have hX : ∀ {k : Nat} {q : Option Addr} {cq : Nat} {w : List Snd} {mx : Mem}, (resW A.w B.w C.w)[k]? = some w → RowW mx 31 q cq w → ∃ ux mx', ResX (resW A.w B.w C.w) k ux mx' ∧ HW.mem mx = HW.mem mx' ∧ [slv q w.length cq] = SV.dens [] ux (Sh.freshs [.sl] 0).1 := fun {k q cq w mx} h1 h2 => ⟨_, mx, ⟨q, cq, w, h1, rfl, h2⟩, rfl, (hxs q w.length cq).symm⟩
  -- with all that is known around
  have hfull : ∀ {hT : HW} (hw : ∃ w, hT.H w) {k : Nat}, J k hT → ResAt A B C (Mv.all hT) := fun hw k hJ => hS.mono (Mv.le_all hw fun w hT => hpre k _ w hJ hT)
  refine .into (S := Mv.all h) hw (fun w hT => Mv.all_le hT) ?_
  have hR := hfull hw hJ
  refine .loadE (fun g => hR.2.2.2.mono g.R) (.env (by (try simp only [liE, letsOf, letU, snd, List.append_nil]); rfl) (.chk rfl (.loadS [A.v, B.v] 0 A.p A.w.length A.cap rfl rfl (fun g => cells_of_mem g e0) (.env (by (try simp only [liE, letsOf, letU, snd, List.append_nil]); rfl) (.chk rfl (.loadS [A.v, B.v] 1 B.p B.w.length B.cap rfl rfl (fun g => cells_of_mem g e0) (.env (by (try simp only [liE, letsOf, letU, snd, List.append_nil]); rfl) (.loadS [C.v] 0 C.p C.w.length C.cap rfl rfl (fun g => cells_of_mem g e1) (.env (by (try simp only [liE, letsOf, letU, snd, List.append_nil]); rfl) (.callM (c_chgE A B C oa ob oc la lb lc) rfl rfl (fun g => ⟨hR.1.mono g.R, hR.2.1.mono g.R, hR.2.2.1.mono g.R⟩) ?_))))))))))
  rintro v mq hf ⟨q, cq, rfl, hr⟩
  cases hs : solveW A.w B.w C.w with
  | none =>
    rw [hs] at hr
    replace e0 := (Mem.join_old (mq := mq) (by rw [e0]; simp)).trans e0
    replace e1 := (Mem.join_old (mq := mq) (by rw [e1]; simp)).trans e1
    refine ⟨[.p q, .i 0, .i (cq : Nat), .b false], uOk_of rfl, (opt_fresh _ _ _ _ _ _).symm, .env (by (try simp only [liE, letsOf, letU, snd, List.append_nil]); rfl) (.no rfl ?_)⟩
    generalize m0.join mq = m1 at *
    clear hf hr
    refine .loadF (fun g => hR.2.2.2.mono g.R) (.env (by (try simp only [liE, letsOf, letU, snd, List.append_nil]); rfl) (.chk rfl (.loadS [A.v, B.v] 0 A.p A.w.length A.cap rfl rfl (fun g => cells_of_mem g e0) (.env (by (try simp only [liE, letsOf, letU, snd, List.append_nil]); rfl) (.chk rfl (.loadS [A.v, B.v] 1 B.p B.w.length B.cap rfl rfl (fun g => cells_of_mem g e0) (.env (by (try simp only [liE, letsOf, letU, snd, List.append_nil]); rfl) (.loadS [C.v] 0 C.p C.w.length C.cap rfl rfl (fun g => cells_of_mem g e1) (.env (by (try simp only [liE, letsOf, letU, snd, List.append_nil]); rfl) (.callM (c_chgF A B C oa ob oc la lb lc) rfl rfl (fun g => ⟨hR.1.mono g.R, hR.2.1.mono g.R, hR.2.2.1.mono g.R⟩) ?_))))))))))
    rintro v mq2 hf2 ⟨q2, cq2, rfl, hr2⟩
    cases hs2 : frontW A.w B.w C.w with
    | none =>
      have hl : (resW A.w B.w C.w).length = 0 := by unfold resW; rw [hs, hs2]; rfl
      rw [hl]
      rw [hs2] at hr2
      exact ⟨[.p q2, .i 0, .i (cq2 : Nat), .b false], uOk_of rfl, (opt_fresh _ _ _ _ _ _).symm, .env (by (try simp only [liE, letsOf, letU, snd, List.append_nil]); rfl) (.no rfl (.stop (.inl hJ)))⟩
    | some y =>
      have hl : resW A.w B.w C.w = [y] := by unfold resW; rw [hs, hs2]
      rw [hs2] at hr2
      refine ⟨[.p q2, .i (y.length : Nat), .i (cq2 : Nat), .b true], uOk_of rfl, (opt_fresh _ _ _ _ _ _).symm, .env (by (try simp only [liE, letsOf, letU, snd, List.append_nil]); rfl) (.yes rfl (.yieldX hy hJ (hX (k := 0) (by rw [hl]; rfl) hr2) rfl (fun b hb => ?_) (fun hT' hw' hJ' _ => .stop (.inl ?_)) (fun hT' hE => .stop (.inr hE))))⟩
      · cases hq : mq2 b with
        | none => rfl
        | some o => exact absurd (hf2 b (by rw [hq]; simp)).1 hb
      · rw [hl]; exact hJ'
  | some x =>
    rw [hs] at hr
    refine ⟨[.p q, .i (x.length : Nat), .i (cq : Nat), .b true], uOk_of rfl, (opt_fresh _ _ _ _ _ _).symm, .env (by (try simp only [liE, letsOf, letU, snd, List.append_nil]); rfl) (.yes rfl ?_)⟩
    have h0 : (resW A.w B.w C.w)[0]? = some x := by
      unfold resW
      rw [hs]
      cases frontW A.w B.w C.w with
      | none => rfl
      | some y => simp only; split <;> rfl
    have hxl : x.length < 2 ^ 40 := by have := solveW_len hs; omega
    refine .yieldX hy hJ (hX (k := 0) h0 hr) rfl (fun b hb => ?_) (fun hT' hw' hJ' hret => ?_) (fun hT' hE => .env (by (try simp only [liE, letsOf, letU, snd, List.append_nil]); rfl) (.yes rfl (.stop (.inr hE))))
    · cases hq : mq b with
      | none => rfl
      | some o => exact absurd (hf b (by rw [hq]; simp)).1 hb
    have hR2 := hfull hw' hJ'
    have hxr : WordAt (Mv.all hT') q x := cells_all hw' fun w hT => hr.cells_of (hret w hT)
    refine .env (by (try simp only [liE, letsOf, letU, snd, List.append_nil]); rfl) (.no rfl (.into (S := Mv.all hT') hw' (fun w hT => Mv.all_le hT) ?_))
    refine .loadF (fun g => hR2.2.2.2.mono g.R) (.env (by (try simp only [liE, letsOf, letU, snd, List.append_nil]); rfl) (.chk rfl (.loadS [A.v, B.v] 0 A.p A.w.length A.cap rfl rfl (fun g => cells_of_mem g e0) (.env (by (try simp only [liE, letsOf, letU, snd, List.append_nil]); rfl) (.chk rfl (.loadS [A.v, B.v] 1 B.p B.w.length B.cap rfl rfl (fun g => cells_of_mem g e0) (.env (by (try simp only [liE, letsOf, letU, snd, List.append_nil]); rfl) (.loadS [C.v] 0 C.p C.w.length C.cap rfl rfl (fun g => cells_of_mem g e1) (.env (by (try simp only [liE, letsOf, letU, snd, List.append_nil]); rfl) (.callM (c_chgF A B C oa ob oc la lb lc) rfl rfl (fun g => ⟨hR2.1.mono g.R, hR2.2.1.mono g.R, hR2.2.2.1.mono g.R⟩) ?_))))))))))
    rintro v mq2 hf2 ⟨q2, cq2, rfl, hr2⟩
    cases hs2 : frontW A.w B.w C.w with
    | none =>
      have hl : (resW A.w B.w C.w).length = 1 := by unfold resW; rw [hs, hs2]; rfl
      rw [hl]
      rw [hs2] at hr2
      exact ⟨[.p q2, .i 0, .i (cq2 : Nat), .b false], uOk_of rfl, (opt_fresh _ _ _ _ _ _).symm, .env (by (try simp only [liE, letsOf, letU, snd, List.append_nil]); rfl) (.no rfl (.stop (.inl hJ')))⟩
    | some y =>
      rw [hs2] at hr2
      have hr3 := hr2.joinR (m := m0) fun b hb => (hf2 b hb).1
      refine ⟨[.p q2, .i (y.length : Nat), .i (cq2 : Nat), .b true], uOk_of rfl, (opt_fresh _ _ _ _ _ _).symm, .env (by (try simp only [liE, letsOf, letU, snd, List.append_nil]); rfl) (.yes rfl (.callV (c_wordEqual q q2 cq cq2 x y (by omega)) (fun g => ⟨hxr.mono g.R, hr3.reads g⟩) (.env (by (try simp only [liE, letsOf, letU, snd, List.append_nil]); rfl) ?_)))⟩
      by_cases he : x = y
      · have hl : (resW A.w B.w C.w).length = 1 := by unfold resW; rw [hs, hs2]; simp [he]
        rw [hl]
        exact .no (by ((try simp only [evE, liE, letsOf, letU, snd]); (try simp only [cmE])); simp [he]) (.stop (.inl hJ'))
      · have hl : resW A.w B.w C.w = [x, y] := by unfold resW; rw [hs, hs2]; simp [he]
        refine .yes (by ((try simp only [evE, liE, letsOf, letU, snd]); (try simp only [cmE])); simp [he]) (.yieldX hy hJ' (hX (k := 1) (by rw [hl]; rfl) hr2) rfl (fun b hb => ?_) (fun hT' hw' hJ' _ => .stop (.inl ?_)) (fun hT' hE => .stop (.inr hE)))
        · cases hq : mq2 b with
          | none => rfl
          | some o => exact absurd (hf2 b (by rw [hq]; simp)).1 hb
        · rw [hl]; exact hJ'
end Go.Proofs.YtpbbnmjkbfbelaaDoor
/- Chapter 30: what a model supports; the reference's Solve, Front, supports and check. -/
namespace Go.Sy
open Go Go.RowKit
theorem RowW.join_sub {m mx m' : Mem} {q : Option Addr} {cq : Nat} {w : List Snd} (h : RowW mx 31 q cq w) : ∀ b o, mx b = some o → (∀ b, m b ≠ none → mx b = none) → m.join mx b = some o := fun b o hb hd => by
  unfold Mem.join
  cases hm : m b with
  | none => exact hb
  | some x => have := hd b (by rw [hm]; simp); rw [this] at hb; cases hb
theorem supW_mem (a b c d : List Snd) : supW a b c d = true ↔ d ∈ resW a b c := by simp [supW]
end Go.Sy
namespace Go.Proofs.YtpbbnmjkbfbelaaDoor
open Go Go.Sy Go.RowKit
theorem c_supports (A B C D : WD) (oa : A.ok) (ob : B.ok) (oc : C.ok) (la : A.w.length < 2 ^ 38) (lb : B.w.length < 2 ^ 38) (lc : C.w.length < 2 ^ 38) (ld : D.w.length < 2 ^ 38) : RetP Tryd.prog n_analogy_supports [.agg #[A.v, B.v], C.v, D.v] (fun R => WordAt R A.p A.w ∧ WordAt R B.p B.w ∧ WordAt R C.p C.w ∧ WordAt R D.p D.w ∧ VarsOk R) (.bool (supW A.w B.w C.w D.w)) := by
  refine Fn.of S_analogy_supports mx [.p A.p, .i A.w.length, .i A.cap, .p B.p, .i B.w.length, .i B.cap, .p C.p, .i C.w.length, .i C.cap, .p D.p, .i D.w.length, .i D.cap] rfl rfl fun c hp => .alloc fun a0 => .alloc fun a1 => .alloc fun a2 => .callM (c_results A B C) rfl rfl (fun _ => trivial) ?_
  rintro v mq hf ⟨b0, b1, rfl, rfl, h01⟩
  refine ⟨[.v (.func (.func n_analogy_results_1) #[] #[.pointer (some ⟨b0, 0, none⟩), .pointer (some ⟨b1, 0, none⟩)])], uOk_of rfl, rfl, .env (by (try simp only [liE, letsOf, letU, snd, List.append_nil]); rfl) ?_⟩
  refine .rangeX n_analogy_results_1 #[.pointer (some ⟨b0, 0, none⟩), .pointer (some ⟨b1, 0, none⟩)] _ (ResX (resW A.w B.w C.w)) (fun w => c.R.le (Mv.of w)) (box2 b0 b1 A B C) Mem.emp (fun k us mm => us = [.b false] ∧ D.w ∉ (resW A.w B.w C.w).take k) (fun n us mm => n = 1 ∧ us = [.b true] ∧ D.w ∈ resW A.w B.w C.w)
    rfl (by kernel_rfl) rfl (fun b hb => absurd rfl hb) (fun k ux m1 hx => ?_) (it_results A B C oa ob oc la lb lc b0 b1 h01 c.R ⟨hp.1, hp.2.1, hp.2.2.1, hp.2.2.2.2⟩) ⟨rfl, by simp⟩ (fun k us m' w _ hw => ⟨fun b o v hv => c.ok w b o v hw.hold.1 hv, fun b es hv => c.okm w b es hw.hold.1 hv⟩) ?_ ?_ ?_
  · obtain ⟨q, cq, w, _, rfl, _⟩ := hx
    exact usOk_of rfl
  · rintro k us ux m' m1 _ ⟨q, cq, w, hw, rfl, hr⟩ ⟨rfl, hn⟩ hdj
    have hr1 := hr.joinR (m := m') fun b hb => by
      cases h : m' b with
      | none => rfl
      | some o => exact absurd (hdj b (by rw [h]; simp)) hb
    have hk : k < (resW A.w B.w C.w).length := by
      rcases Nat.lt_or_ge k (resW A.w B.w C.w).length with h | h
      · exact h
      · rw [List.getElem?_eq_none h] at hw; cases hw
    have hwk : (resW A.w B.w C.w)[k] = w := by rw [List.getElem?_eq_getElem hk] at hw; exact Option.some.inj hw
    have hmem : w ∈ resW A.w B.w C.w := hwk ▸ List.getElem_mem hk
    have hlw := resW_len hmem
    have hsub : ∀ b o, m1 b = some o → m'.join m1 b = some o := fun b o hb => hr.join_sub (m' := m') b o hb hdj
    refine .env (by (try simp only [liE, letsOf, letU, snd, List.append_nil]); rfl) (.callV (c_wordEqual q D.p cq D.cap w D.w (by omega)) (fun g => ⟨hr1.reads g, hp.2.2.2.1.mono g.R⟩) ?_)
    by_cases he : w = D.w
    · exact .yes (by ((try simp only [evE, liE, letsOf, letU, snd]); (try simp only [cmE])); simp [he]) (.leave ⟨hsub, .inr ⟨by decide, rfl, rfl, he ▸ hmem⟩⟩)
    · refine .no (by ((try simp only [evE, liE, letsOf, letU, snd]); (try simp only [cmE])); simp [he]) (.leave ⟨hsub, .inl ⟨rfl, rfl, ?_⟩⟩)
      rw [List.take_succ_eq_append_getElem hk, List.mem_append, hwk]
      simp only [List.mem_cons, List.not_mem_nil, or_false, not_or]
      exact ⟨hn, fun h => he h.symm⟩
  · rintro us m' _ ⟨rfl, hn⟩
    rw [List.take_of_length_le (Nat.le_refl _)] at hn
    have : supW A.w B.w C.w D.w = false := by unfold supW; simpa using hn
    rw [this]
    exact .no rfl (.ret rfl rfl)
  · rintro n us m' _ _ ⟨rfl, rfl, hm⟩
    have : supW A.w B.w C.w D.w = true := by unfold supW; simpa using hm
    rw [this]
    exact .yes rfl (.ret rfl rfl)
theorem c_refSup (A B C D : WD) (oa : A.ok) (ob : B.ok) (oc : C.ok) (la : A.w.length < 2 ^ 38) (lb : B.w.length < 2 ^ 38) (lc : C.w.length < 2 ^ 38) (ld : D.w.length < 2 ^ 38) : RetP Tryd.prog n_ref30_supports [.agg #[A.v, B.v], C.v, D.v] (fun R => WordAt R A.p A.w ∧ WordAt R B.p B.w ∧ WordAt R C.p C.w ∧ WordAt R D.p D.w) (.bool (supW A.w B.w C.w D.w)) := by
  refine Fn.of S_ref30_supports mx [.p A.p, .i A.w.length, .i A.cap, .p B.p, .i B.w.length, .i B.cap, .p C.p, .i C.w.length, .i C.cap, .p D.p, .i D.w.length, .i D.cap] rfl rfl fun c hp => .alloc fun a0 => .callM (c_refSolve0 A B C oa ob oc la lb lc) rfl rfl (fun g => ⟨hp.1.mono g.R, hp.2.1.mono g.R, hp.2.2.1.mono g.R⟩) ?_
  rintro v mq hf ⟨q, cq, rfl, hr⟩
  cases hs : solveW A.w B.w C.w with
  | none =>
    refine ⟨[.p q, .i 0, .i (cq : Nat), .b false], uOk_of rfl, (opt_fresh _ _ _ _ _ _).symm, .env (by (try simp only [liE, letsOf, letU, snd, List.append_nil]); rfl) (.no rfl (.callM (c_refFront0 A B C la lb lc) rfl rfl (fun g => ⟨hp.1.mono g.R, hp.2.1.mono g.R, hp.2.2.1.mono g.R⟩) ?_))⟩
    rintro v mq2 hf2 ⟨q2, cq2, rfl, hr2⟩
    cases hs2 : frontW A.w B.w C.w with
    | none =>
      have : supW A.w B.w C.w D.w = false := by unfold supW resW; rw [hs, hs2]; simp
      rw [this]
      exact ⟨[.p q2, .i 0, .i (cq2 : Nat), .b false], uOk_of rfl, (opt_fresh _ _ _ _ _ _).symm, .env (by (try simp only [liE, letsOf, letU, snd, List.append_nil]); rfl) (.no rfl (.ret rfl rfl))⟩
    | some y =>
      rw [hs2] at hr2
      have hr3 := hr2.joinR fun b hb => (hf2 b hb).1
      have hl := frontW_len hs2
      have : supW A.w B.w C.w D.w = decide (y = D.w) := by unfold supW resW; rw [hs, hs2]; simp [eq_comm]
      rw [this]
      exact ⟨[.p q2, .i (y.length : Nat), .i (cq2 : Nat), .b true], uOk_of rfl, (opt_fresh _ _ _ _ _ _).symm, .env (by (try simp only [liE, letsOf, letU, snd, List.append_nil]); rfl) (.yes rfl (.callV (c_refEqual q2 D.p cq2 D.cap y D.w (by omega)) (fun g => ⟨hr3.reads g, hp.2.2.2.mono g.R⟩) (.ret rfl rfl)))⟩
  | some x =>
    rw [hs] at hr
    have hr1 := hr.joinR (m := Mem.emp) fun b hb => rfl
    have hlx := solveW_len hs
    refine ⟨[.p q, .i (x.length : Nat), .i (cq : Nat), .b true], uOk_of rfl, (opt_fresh _ _ _ _ _ _).symm, .env (by (try simp only [liE, letsOf, letU, snd, List.append_nil]); rfl) (.yes rfl (.callV (c_refEqual q D.p cq D.cap x D.w (by omega)) (fun g => ⟨hr1.reads g, hp.2.2.2.mono g.R⟩) (.env (by (try simp only [liE, letsOf, letU, snd, List.append_nil]); rfl) (.ite (fun h1 => .ret rfl ?_) (fun h1 => .callM (c_refFront0 A B C la lb lc) rfl rfl (fun g => ⟨hp.1.mono g.R, hp.2.1.mono g.R, hp.2.2.1.mono g.R⟩) ?_)))))⟩
    · replace h1 : decide (x = D.w) = true := h1
      have : supW A.w B.w C.w D.w = true := by
        rw [supW_mem, ← of_decide_eq_true h1]
        unfold resW; rw [hs]
        cases frontW A.w B.w C.w with
        | none => simp
        | some y => simp only; split <;> simp
      rw [this]; rfl
    · replace h1 : decide (x = D.w) = false := h1
      have hx := of_decide_eq_false h1
      rintro v mq2 hf2 ⟨q2, cq2, rfl, hr2⟩
      cases hs2 : frontW A.w B.w C.w with
      | none =>
        have : supW A.w B.w C.w D.w = false := by unfold supW resW; rw [hs, hs2]; simpa using fun h => hx h.symm
        rw [this]
        exact ⟨[.p q2, .i 0, .i (cq2 : Nat), .b false], uOk_of rfl, (opt_fresh _ _ _ _ _ _).symm, .env (by (try simp only [liE, letsOf, letU, snd, List.append_nil]); rfl) (.no rfl (.ret rfl rfl))⟩
      | some y =>
        rw [hs2] at hr2
        have hr3 := hr2.joinR fun b hb => (hf2 b hb).1
        have hl := frontW_len hs2
        have : supW A.w B.w C.w D.w = decide (y = D.w) := by
          unfold supW resW; rw [hs, hs2]
          by_cases h : x = y
          · simp only [h]; subst h; simp [eq_comm]
          · simp only [if_neg h]; simp [eq_comm, fun e => hx e]
        rw [this]
        exact ⟨[.p q2, .i (y.length : Nat), .i (cq2 : Nat), .b true], uOk_of rfl, (opt_fresh _ _ _ _ _ _).symm, .env (by (try simp only [liE, letsOf, letU, snd, List.append_nil]); rfl) (.yes rfl (.callV (c_refEqual q2 D.p cq2 D.cap y D.w (by omega)) (fun g => ⟨hr3.reads g, hp.2.2.2.mono g.R⟩) (.ret rfl rfl)))⟩
end Go.Proofs.YtpbbnmjkbfbelaaDoor
/- Chapter 30: Holds, Explain, Count, of both; the reference's Solve and Front. -/
namespace Go.Sy
open Go Go.RowKit
theorem checkL_all {l : List (List Snd)} (h : checkL l = 0) : ∀ w ∈ l, w.length ≤ 32 := by
  induction l with
  | nil => simp
  | cons w l ih =>
    unfold checkL at h
    split at h
    · rename_i h2; exact absurd h h2
    · rename_i h2
      simp only [ne_eq, Decidable.not_not] at h2
      intro x hx
      rcases List.mem_cons.1 hx with rfl | hx
      · exact (checkW_zero h2).1
      · exact ih h x hx
theorem chkM_all {ms : List MD} {l : List (List Snd)} (h : chkM ms l = 0) : ms.length ≤ 256 ∧ (∀ x ∈ ms, x.a.w.length ≤ 32 ∧ x.b.w.length ≤ 32) ∧ ∀ w ∈ l, w.length ≤ 32 := by
  unfold chkM at h
  split at h
  · cases h
  · have := checkL_all h
    refine ⟨by omega, fun x hx => ⟨this _ ?_, this _ ?_⟩, fun w hw => this _ (List.mem_append_right _ hw)⟩ <;> refine List.mem_append_left _ (List.mem_flatMap.2 ⟨x, hx, ?_⟩) <;> simp
/-- A model supports that c is to d. -/
def supM (c d : List Snd) (m : MD) : Bool := supW m.a.w m.b.w c d
def holdsW (a b c d : List Snd) : Bool × Int := if checkL [a, b, c, d] ≠ 0 then (false, checkL [a, b, c, d]) else (supW a b c d, 0)
def foundW : Option Nat → Int × Bool × Int
  | some i => ((i : Int), true, 0)
  | none => (0, false, 0)
def explW (ms : List MD) (c d : List Snd) : Int × Bool × Int := if chkM ms [c, d] ≠ 0 then (0, false, chkM ms [c, d]) else foundW (ms.findIdx? (supM c d))
def countW (ms : List MD) (c d : List Snd) : Int × Int := if chkM ms [c, d] ≠ 0 then (0, chkM ms [c, d]) else (((ms.countP (supM c d) : Nat) : Int), 0)
theorem findIdx?_at {α : Type} {p : α → Bool} {l : List α} {j : Nat} (hj : j < l.length) (h : p l[j] = true) (hb : ∀ i (hi : i < l.length), i < j → p l[i] = false) : l.findIdx? p = some j := by
  rw [List.findIdx?_eq_some_iff_getElem]
  exact ⟨hj, h, fun i hi => by simp [hb i (by omega) hi]⟩
theorem findIdx?_none {α : Type} {p : α → Bool} {l : List α} (hb : ∀ i (hi : i < l.length), p l[i] = false) : l.findIdx? p = none := by
  rw [List.findIdx?_eq_none_iff]
  intro x hx
  obtain ⟨i, hi, rfl⟩ := List.getElem_of_mem hx
  exact hb i hi
theorem countP_snoc {α : Type} {p : α → Bool} {l : List α} {j : Nat} (hj : j < l.length) : (l.take (j + 1)).countP p = (l.take j).countP p + if p l[j] then 1 else 0 := by
  rw [List.take_succ_eq_append_getElem hj, List.countP_append]
  by_cases h : p l[j] = true <;> simp [h]
end Go.Sy
namespace Go.Proofs.YtpbbnmjkbfbelaaDoor
open Go Go.Sy Go.RowKit
theorem c_ref30check (p : Option Addr) (cp : Nat) (ms : List MD) (q : Option Addr) (cq : Nat) (l : List WD) (hm : ModelsOk ms) (h : ∀ x ∈ l, Wok x.w) (hl : l.length < 2 ^ 62) : RetP Tryd.prog n_ref30_check [slv p ms.length cp, slv q l.length cq] (fun R => ModelsAt R p ms ∧ WordsAt R q l) (.int .i64 (chkM ms (l.map (·.w)))) := by
  refine Fn.of S_ref30_check mx [.p p, .i ms.length, .i cp, .p q, .i l.length, .i cq] rfl rfl fun c hp => .chk (by ((try simp only [evE, liE, letsOf, letU, snd]); (try simp only [cmE])); omega) (.ite (fun h1 => .ret rfl ?_) (fun h1 => ?_)) <;> ((try simp only [evE, liE, letsOf, letU, snd] at h1); (try simp only [cmE] at h1))
  · have : chkM ms (l.map (·.w)) = 12 := by unfold chkM; rw [if_pos (by omega)]
    rw [this]; rfl
  have hs : chkM ms (l.map (·.w)) = checkL (mwords ms ++ l.map (·.w)) := by unfold chkM; rw [if_neg (by omega)]
  rw [hs]
  refine .loop (fun n us _ => ∃ (e : Int) (j : Nat), us = [.i e, .i j] ∧ n + j = ms.length ∧ checkL (mwords (ms.take j)) = 0) ms.length ⟨0, 0, rfl, rfl, rfl⟩ ?_
  rintro n _ m _ ⟨e, j, rfl, hn, hc⟩
  refine .env (by (try simp only [liE, letsOf, letU, snd, List.append_nil]); rfl) (.chk (by ((try simp only [evE, liE, letsOf, letU, snd]); (try simp only [cmE])); omega) (.ite (fun h2 => ?_) (fun h2 => ?_))) <;> ((try simp only [evE, liE, letsOf, letU, snd] at h2); (try simp only [cmE] at h2))
  · have hj : j < ms.length := by omega
    have hok := hm _ (List.getElem_mem hj)
    have hat := hp.1.2 _ (List.getElem_mem hj)
    have hcs := mcells_at ms j hj
    obtain ⟨b, o, hpe⟩ := (hp.1.1.some (i := j * 2) (by rw [mcells_len]; omega) : ∃ b o, p = some ⟨b, o, none⟩)
    subst hpe
    refine .chk (by ((try simp only [evE, liE, letsOf, letU, snd]); (try simp only [cmE])); simp; omega) (.chk (by ((try simp only [evE, liE, letsOf, letU, snd]); (try simp only [cmE])); simp; omega) (.loadS (mcells ms) (j * 2) ms[j].a.p ms[j].a.w.length ms[j].a.cap ?_ hcs.1 (fun g => hp.1.1.mono g.R) (.env (by (try simp only [liE, letsOf, letU, snd, List.append_nil]); rfl) (.chk (by ((try simp only [evE, liE, letsOf, letU, snd]); (try simp only [cmE])); simp; omega) (.chk (by ((try simp only [evE, liE, letsOf, letU, snd]); (try simp only [cmE])); simp; omega) (.loadS (mcells ms) (j * 2 + 1) ms[j].b.p ms[j].b.w.length ms[j].b.cap ?_ hcs.2 (fun g => hp.1.1.mono g.R) (.env (by (try simp only [liE, letsOf, letU, snd, List.append_nil]); rfl) (.alloc fun b0 => .callV (c_refWords (some ⟨b0, 0, none⟩) 2 [ms[j].a, ms[j].b] (by simp [hok.1, hok.2.1]) (by simp)) (fun g => ⟨g.cells (j := 0) rfl rfl rfl, ?_⟩) (.env (by (try simp only [liE, letsOf, letU, snd, List.append_nil]); rfl) (.ite (fun h3 => .ret rfl ?_) (fun h3 => .again rfl ⟨n - 1, by omega, e, j + 1, ?_, by omega, ?_⟩)))))))))))
    · simp only [IT.eval, Env.int]; simp
    · simp only [IT.eval, Env.int]; simp <;> omega
    · simp only [List.mem_cons, List.not_mem_nil, or_false]
      rintro x (rfl | rfl)
      · exact hat.1.mono g.R
      · exact hat.2.mono g.R
    · ((try simp only [evE, liE, letsOf, letU, snd] at h3); (try simp only [cmE] at h3))
      replace h3 : checkL [ms[j].a.w, ms[j].b.w] ≠ 0 := h3
      rw [chk_model hj hc h3]; rfl
    · (simp only [evE, liE, letsOf, letU, snd, Sh.uss, Sh.us, atAddr, map_add0, List.append_nil]); rw [add_i64 j (by omega)]
    · ((try simp only [evE, liE, letsOf, letU, snd] at h3); (try simp only [cmE] at h3))
      replace h3 : checkL [ms[j].a.w, ms[j].b.w] = 0 := h3
      rw [mwords_snoc hj, checkL_append, if_neg (by simp [hc])]; exact h3
  · rw [List.take_of_length_le (by omega)] at hc
    rw [checkL_append, if_neg (by simp [hc])]
    exact .callV (c_refWords q cq l h hl) (fun g => ⟨hp.2.1.mono g.R, fun x hx => (hp.2.2 x hx).mono g.R⟩) (.ret rfl rfl)
theorem c_refSolve (A B C : WD) (ha : Wok A.w) (hb : Wok B.w) (hc : Wok C.w) (oa : A.ok) (ob : B.ok) (oc : C.ok) : FnM Tryd.prog n_ref30_Solve [A.v, B.v, C.v] (fun R => WordAt R A.p A.w ∧ WordAt R B.p B.w ∧ WordAt R C.p C.w) fun v mq _ => Res3 31 mq v (oneW A.w B.w C.w (solveW A.w B.w C.w)) := by
  refine FnM.of S_ref30_Solve mx [.p A.p, .i A.w.length, .i A.cap, .p B.p, .i B.w.length, .i B.cap, .p C.p, .i C.w.length, .i C.cap] rfl rfl fun c hp => .alloc fun b0 => ?_
  refine .callV (c_refWords (some ⟨b0, 0, none⟩) 3 [A, B, C] (by simp [ha, hb, hc]) (by simp)) (fun g => ⟨g.cells (j := 0) rfl rfl rfl, ?_⟩) (.env (by (try simp only [liE, letsOf, letU, snd, List.append_nil]); rfl) (.ite (fun h1 => .ret rfl ?_) (fun h1 => ?_)))
  · simp only [List.mem_cons, List.not_mem_nil, or_false]
    rintro x (rfl | rfl | rfl)
    · exact hp.1.mono g.R
    · exact hp.2.1.mono g.R
    · exact hp.2.2.mono g.R
  · ((try simp only [evE, liE, letsOf, letU, snd] at h1); (try simp only [cmE] at h1))
    replace h1 : checkL [A.w, B.w, C.w] ≠ 0 := h1
    have : ∀ o, oneW A.w B.w C.w o = ([], false, checkL [A.w, B.w, C.w]) := fun o => by unfold oneW; rw [if_pos h1]
    rw [this]; exact ⟨none, 0, rfl, .of (Row.nil _ _ _)⟩
  ((try simp only [evE, liE, letsOf, letU, snd] at h1); (try simp only [cmE] at h1))
  replace h1 : checkL [A.w, B.w, C.w] = 0 := h1
  rw [show checkL (List.map (fun x : WD => x.w) [A, B, C]) = 0 from h1]
  obtain ⟨la, lb, lc⟩ := checkL_three h1
  have hs : ∀ o, oneW A.w B.w C.w o = if (o.getD []).length > 32 then ([], false, 11) else (o.getD [], o.isSome, 0) := fun o => by unfold oneW; rw [if_neg (by simp [h1])]
  rw [hs]
  refine .callM (c_refSolve0 A B C oa ob oc (by omega) (by omega) (by omega)) rfl rfl (fun g => ⟨hp.1.mono g.R, hp.2.1.mono g.R, hp.2.2.mono g.R⟩) ?_
  rintro v mq hf ⟨q, cq, rfl, hr⟩
  replace hr := hr.joinR (m := Mem.emp) fun b hb => (hf b hb).1
  generalize solveW A.w B.w C.w = o at *
  refine ⟨[.p q, .i ((o.getD []).length : Nat), .i (cq : Nat), .b o.isSome], uOk_of rfl, (opt_fresh _ _ _ _ _ _).symm, .env (by (try simp only [liE, letsOf, letU, snd, List.append_nil]); rfl) (.chk (by ((try simp only [evE, liE, letsOf, letU, snd]); (try simp only [cmE])); omega) (.ite (fun h2 => .ret rfl ?_) (fun h2 => .ret rfl ?_)))⟩ <;> ((try simp only [evE, liE, letsOf, letU, snd] at h2); (try simp only [cmE] at h2))
  · rw [if_pos (by omega)]; exact ⟨none, 0, rfl, .of (Row.nil _ _ _)⟩
  · rw [if_neg (by omega)]; exact ⟨q, cq, rfl, hr⟩
theorem c_refFront (A B C : WD) (ha : Wok A.w) (hb : Wok B.w) (hc : Wok C.w) : FnM Tryd.prog n_ref30_Front [A.v, B.v, C.v] (fun R => WordAt R A.p A.w ∧ WordAt R B.p B.w ∧ WordAt R C.p C.w) fun v mq _ => Res3 31 mq v (oneW A.w B.w C.w (frontW A.w B.w C.w)) := by
  refine FnM.of S_ref30_Front mx [.p A.p, .i A.w.length, .i A.cap, .p B.p, .i B.w.length, .i B.cap, .p C.p, .i C.w.length, .i C.cap] rfl rfl fun c hp => .alloc fun b0 => ?_
  refine .callV (c_refWords (some ⟨b0, 0, none⟩) 3 [A, B, C] (by simp [ha, hb, hc]) (by simp)) (fun g => ⟨g.cells (j := 0) rfl rfl rfl, ?_⟩) (.env (by (try simp only [liE, letsOf, letU, snd, List.append_nil]); rfl) (.ite (fun h1 => .ret rfl ?_) (fun h1 => ?_)))
  · simp only [List.mem_cons, List.not_mem_nil, or_false]
    rintro x (rfl | rfl | rfl)
    · exact hp.1.mono g.R
    · exact hp.2.1.mono g.R
    · exact hp.2.2.mono g.R
  · ((try simp only [evE, liE, letsOf, letU, snd] at h1); (try simp only [cmE] at h1))
    replace h1 : checkL [A.w, B.w, C.w] ≠ 0 := h1
    have : ∀ o, oneW A.w B.w C.w o = ([], false, checkL [A.w, B.w, C.w]) := fun o => by unfold oneW; rw [if_pos h1]
    rw [this]; exact ⟨none, 0, rfl, .of (Row.nil _ _ _)⟩
  ((try simp only [evE, liE, letsOf, letU, snd] at h1); (try simp only [cmE] at h1))
  replace h1 : checkL [A.w, B.w, C.w] = 0 := h1
  rw [show checkL (List.map (fun x : WD => x.w) [A, B, C]) = 0 from h1]
  obtain ⟨la, lb, lc⟩ := checkL_three h1
  have hs : ∀ o, oneW A.w B.w C.w o = if (o.getD []).length > 32 then ([], false, 11) else (o.getD [], o.isSome, 0) := fun o => by unfold oneW; rw [if_neg (by simp [h1])]
  rw [hs]
  refine .callM (c_refFront0 A B C (by omega) (by omega) (by omega)) rfl rfl (fun g => ⟨hp.1.mono g.R, hp.2.1.mono g.R, hp.2.2.mono g.R⟩) ?_
  rintro v mq hf ⟨q, cq, rfl, hr⟩
  replace hr := hr.joinR (m := Mem.emp) fun b hb => (hf b hb).1
  generalize frontW A.w B.w C.w = o at *
  refine ⟨[.p q, .i ((o.getD []).length : Nat), .i (cq : Nat), .b o.isSome], uOk_of rfl, (opt_fresh _ _ _ _ _ _).symm, .env (by (try simp only [liE, letsOf, letU, snd, List.append_nil]); rfl) (.chk (by ((try simp only [evE, liE, letsOf, letU, snd]); (try simp only [cmE])); omega) (.ite (fun h2 => .ret rfl ?_) (fun h2 => .ret rfl ?_)))⟩ <;> ((try simp only [evE, liE, letsOf, letU, snd] at h2); (try simp only [cmE] at h2))
  · rw [if_pos (by omega)]; exact ⟨none, 0, rfl, .of (Row.nil _ _ _)⟩
  · rw [if_neg (by omega)]; exact ⟨q, cq, rfl, hr⟩
theorem c_Holds (A B C D : WD) (ha : Wok A.w) (hb : Wok B.w) (hc : Wok C.w) (hd : Wok D.w) (oa : A.ok) (ob : B.ok) (oc : C.ok) : RetP Tryd.prog n_analogy_Holds [A.v, B.v, C.v, D.v] (fun R => WordAt R A.p A.w ∧ WordAt R B.p B.w ∧ WordAt R C.p C.w ∧ WordAt R D.p D.w ∧ VarsOk R) (.tuple #[.bool (holdsW A.w B.w C.w D.w).1, .int .i64 (holdsW A.w B.w C.w D.w).2]) := by
  refine Fn.of S_analogy_Holds mx [.p A.p, .i A.w.length, .i A.cap, .p B.p, .i B.w.length, .i B.cap, .p C.p, .i C.w.length, .i C.cap, .p D.p, .i D.w.length, .i D.cap] rfl rfl fun c hp => .alloc fun b0 => ?_
  refine .callV (c_check0 (some ⟨b0, 0, none⟩) 4 [A, B, C, D] (by simp [ha, hb, hc, hd]) (by simp)) (fun g => ⟨g.cells (j := 0) rfl rfl rfl, ?_⟩) (.env (by (try simp only [liE, letsOf, letU, snd, List.append_nil]); rfl) (.ite (fun h1 => .ret rfl ?_) (fun h1 => ?_)))
  · simp only [List.mem_cons, List.not_mem_nil, or_false]
    rintro x (rfl | rfl | rfl | rfl)
    · exact hp.1.mono g.R
    · exact hp.2.1.mono g.R
    · exact hp.2.2.1.mono g.R
    · exact hp.2.2.2.1.mono g.R
  · ((try simp only [evE, liE, letsOf, letU, snd] at h1); (try simp only [cmE] at h1))
    replace h1 : checkL [A.w, B.w, C.w, D.w] ≠ 0 := h1
    have : holdsW A.w B.w C.w D.w = (false, checkL [A.w, B.w, C.w, D.w]) := by unfold holdsW; rw [if_pos h1]
    rw [this]; rfl
  ((try simp only [evE, liE, letsOf, letU, snd] at h1); (try simp only [cmE] at h1))
  replace h1 : checkL [A.w, B.w, C.w, D.w] = 0 := h1
  have l1 := checkL_all h1
  simp only [List.mem_cons, List.not_mem_nil, or_false, forall_eq_or_imp, forall_eq] at l1
  have : holdsW A.w B.w C.w D.w = (supW A.w B.w C.w D.w, 0) := by unfold holdsW; rw [if_neg (by simp [h1])]
  rw [this]
  exact .callV (c_supports A B C D oa ob oc (by omega) (by omega) (by omega) (by omega)) (fun g => ⟨hp.1.mono g.R, hp.2.1.mono g.R, hp.2.2.1.mono g.R, hp.2.2.2.1.mono g.R, hp.2.2.2.2.mono g.R⟩) (.ret rfl rfl)
theorem c_refHolds (A B C D : WD) (ha : Wok A.w) (hb : Wok B.w) (hc : Wok C.w) (hd : Wok D.w) (oa : A.ok) (ob : B.ok) (oc : C.ok) : RetP Tryd.prog n_ref30_Holds [A.v, B.v, C.v, D.v] (fun R => WordAt R A.p A.w ∧ WordAt R B.p B.w ∧ WordAt R C.p C.w ∧ WordAt R D.p D.w) (.tuple #[.bool (holdsW A.w B.w C.w D.w).1, .int .i64 (holdsW A.w B.w C.w D.w).2]) := by
  refine Fn.of S_ref30_Holds mx [.p A.p, .i A.w.length, .i A.cap, .p B.p, .i B.w.length, .i B.cap, .p C.p, .i C.w.length, .i C.cap, .p D.p, .i D.w.length, .i D.cap] rfl rfl fun c hp => .alloc fun b0 => ?_
  refine .callV (c_refWords (some ⟨b0, 0, none⟩) 4 [A, B, C, D] (by simp [ha, hb, hc, hd]) (by simp)) (fun g => ⟨g.cells (j := 0) rfl rfl rfl, ?_⟩) (.env (by (try simp only [liE, letsOf, letU, snd, List.append_nil]); rfl) (.ite (fun h1 => .ret rfl ?_) (fun h1 => ?_)))
  · simp only [List.mem_cons, List.not_mem_nil, or_false]
    rintro x (rfl | rfl | rfl | rfl)
    · exact hp.1.mono g.R
    · exact hp.2.1.mono g.R
    · exact hp.2.2.1.mono g.R
    · exact hp.2.2.2.mono g.R
  · ((try simp only [evE, liE, letsOf, letU, snd] at h1); (try simp only [cmE] at h1))
    replace h1 : checkL [A.w, B.w, C.w, D.w] ≠ 0 := h1
    have : holdsW A.w B.w C.w D.w = (false, checkL [A.w, B.w, C.w, D.w]) := by unfold holdsW; rw [if_pos h1]
    rw [this]; rfl
  ((try simp only [evE, liE, letsOf, letU, snd] at h1); (try simp only [cmE] at h1))
  replace h1 : checkL [A.w, B.w, C.w, D.w] = 0 := h1
  have l1 := checkL_all h1
  simp only [List.mem_cons, List.not_mem_nil, or_false, forall_eq_or_imp, forall_eq] at l1
  have : holdsW A.w B.w C.w D.w = (supW A.w B.w C.w D.w, 0) := by unfold holdsW; rw [if_neg (by simp [h1])]
  rw [this]
  exact .callV (c_refSup A B C D oa ob oc (by omega) (by omega) (by omega) (by omega)) (fun g => ⟨hp.1.mono g.R, hp.2.1.mono g.R, hp.2.2.1.mono g.R, hp.2.2.2.mono g.R⟩) (.ret rfl rfl)
end Go.Proofs.YtpbbnmjkbfbelaaDoor
/- Chapter 30: Explain and Count, of both. -/
namespace Go.Proofs.YtpbbnmjkbfbelaaDoor
open Go Go.Sy Go.RowKit
theorem c_index (p : Option Addr) (cp : Nat) (ms : List MD) (fv : Value) (hfv : fv.oneCell' = true) (f : MD → Bool) (pre : Mv → Prop) (hpre : ∀ R S : Mv, R.le S → pre R → pre S) (hl : ms.length < 2 ^ 62) (hf : ∀ x ∈ ms, FnV Tryd.prog fv [.agg #[x.a.v, x.b.v]] pre fun v _ _ => v = .bool (f x)) :
    RetP Tryd.prog n_slices_IndexFunc___api_Pair_api_Pair_ [slv p ms.length cp, fv] (fun R => ModelsAt R p ms ∧ pre R) (.int .i64 (match ms.findIdx? f with | some i => (i : Int) | none => -1)) := by
  refine Fn.of S_slices_IndexFunc___api_Pair_api_Pair_ mx [.p p, .i ms.length, .i cp, .v fv] (by simp [Sh.eats, Sh.eat, eatV, eatP, eatS, hfv]) rfl fun c hp => .chk (by ((try simp only [evE, liE, letsOf, letU, snd]); (try simp only [cmE])); omega) ?_
  refine .loop (fun n us _ => ∃ (e : Int) (j : Nat), us = [.i e, .i j] ∧ n + j = ms.length ∧ ∀ i (hi : i < ms.length), i < j → f ms[i] = false) ms.length ⟨0, 0, rfl, rfl, fun i hi h => by omega⟩ ?_
  rintro n _ m _ ⟨e, j, rfl, hn, hb⟩
  refine .env (by (try simp only [liE, letsOf, letU, snd, List.append_nil]); rfl) (.ite (fun h2 => ?_) (fun h2 => .ret rfl ?_)) <;> ((try simp only [evE, liE, letsOf, letU, snd] at h2); (try simp only [cmE] at h2))
  · have hj : j < ms.length := by omega
    refine .loadMD ms j hj (fun g => hp.1.1.mono g.R) (.env (by (try simp only [liE, letsOf, letU, snd, List.append_nil]); rfl) (.callvR (hf _ (List.getElem_mem hj)) (fun g => hpre _ _ g.R hp.2) (fun m' _ => .env (by (try simp only [liE, letsOf, letU, snd, List.append_nil]); rfl) (.ite (fun h3 => .ret rfl ?_) (fun h3 => .again rfl ⟨n - 1, by omega, e, j + 1, ?_, by omega, ?_⟩)))))
    · replace h3 : f ms[j] = true := h3
      rw [findIdx?_at hj h3 hb]; rfl
    · (simp only [evE, liE, letsOf, letU, snd, Sh.uss, Sh.us, atAddr, map_add0, List.append_nil]); rw [add_i64 j (by omega)]
    · replace h3 : f ms[j] = false := h3
      intro i hi hij
      rcases Nat.lt_or_ge i j with h | h
      · exact hb i hi h
      · have : i = j := by omega
        subst this; exact h3
  · rw [findIdx?_none fun i hi => hb i hi (by omega)]; rfl
def ExpAt (C D : WD) (ms : List MD) (b0 b1 : Nat) (R : Mv) : Prop := Cells R (some ⟨b0, 0, none⟩) [C.v] ∧ Cells R (some ⟨b1, 0, none⟩) [D.v] ∧ WordAt R C.p C.w ∧ WordAt R D.p D.w ∧ (∀ x ∈ ms, WordAt R x.a.p x.a.w ∧ WordAt R x.b.p x.b.w) ∧ VarsOk R
theorem c_exp1 (C D : WD) (ms : List MD) (b0 b1 : Nat) (x : MD) (hx : x ∈ ms) (oa : x.a.ok) (ob : x.b.ok) (oc : C.ok) (la : x.a.w.length < 2 ^ 38) (lb : x.b.w.length < 2 ^ 38) (lc : C.w.length < 2 ^ 38) (ld : D.w.length < 2 ^ 38) :
    FnM Tryd.prog n_analogy_Explain_1 ([.agg #[x.a.v, x.b.v]] ++ [.pointer (some ⟨b0, 0, none⟩), .pointer (some ⟨b1, 0, none⟩)]) (ExpAt C D ms b0 b1) fun v _ _ => v = .bool (supM C.w D.w x) := by
  refine Fn.of S_analogy_Explain_1 mx [.p x.a.p, .i x.a.w.length, .i x.a.cap, .p x.b.p, .i x.b.w.length, .i x.b.cap, .p (some ⟨b0, 0, none⟩), .p (some ⟨b1, 0, none⟩)] rfl rfl fun c hp => .alloc fun a0 => ?_
  obtain ⟨h0, h1, hC, hD, hm, hV⟩ := hp
  refine .loadS [C.v] 0 C.p C.w.length C.cap rfl rfl (fun g => h0.mono g.R) (.env (by (try simp only [liE, letsOf, letU, snd, List.append_nil]); rfl) (.loadS [D.v] 0 D.p D.w.length D.cap rfl rfl (fun g => h1.mono g.R) (.env (by (try simp only [liE, letsOf, letU, snd, List.append_nil]); rfl) (.callV (c_supports x.a x.b C D oa ob oc la lb lc ld) (fun g => ⟨(hm x hx).1.mono g.R, (hm x hx).2.mono g.R, hC.mono g.R, hD.mono g.R, hV.mono g.R⟩) (.ret rfl rfl)))))
theorem c_Explain (p : Option Addr) (cp : Nat) (ms : List MD) (C D : WD) (hm : ModelsOk ms) (hc : Wok C.w) (hd : Wok D.w) (oc : C.ok) (hl : ms.length < 2 ^ 62) : RetP Tryd.prog n_analogy_Explain [slv p ms.length cp, C.v, D.v] (fun R => ModelsAt R p ms ∧ WordAt R C.p C.w ∧ WordAt R D.p D.w ∧ VarsOk R) (.tuple #[.int .i64 (explW ms C.w D.w).1, .bool (explW ms C.w D.w).2.1, .int .i64 (explW ms C.w D.w).2.2]) := by
  refine Fn.of S_analogy_Explain mx [.p p, .i ms.length, .i cp, .p C.p, .i C.w.length, .i C.cap, .p D.p, .i D.w.length, .i D.cap] rfl rfl fun c hp => .alloc fun b0 => .alloc fun b1 => .alloc fun b2 => ?_
  obtain ⟨hM, hC, hD, hV⟩ := hp
  refine .callV (c_check p cp ms (some ⟨b2, 0, none⟩) 2 [C, D] hm (by simp [hc, hd]) (by simp)) (fun g => ⟨hM.mono g.R, g.cells (j := 2) rfl rfl rfl, ?_⟩) (.env (by (try simp only [liE, letsOf, letU, snd, List.append_nil]); rfl) (.ite (fun h1 => .ret rfl ?_) (fun h1 => ?_)))
  · simp only [List.mem_cons, List.not_mem_nil, or_false]
    rintro x (rfl | rfl)
    · exact hC.mono g.R
    · exact hD.mono g.R
  · ((try simp only [evE, liE, letsOf, letU, snd] at h1); (try simp only [cmE] at h1))
    replace h1 : chkM ms [C.w, D.w] ≠ 0 := h1
    have : explW ms C.w D.w = (0, false, chkM ms [C.w, D.w]) := by unfold explW; rw [if_pos h1]
    rw [this]; rfl
  ((try simp only [evE, liE, letsOf, letU, snd] at h1); (try simp only [cmE] at h1))
  replace h1 : chkM ms [C.w, D.w] = 0 := h1
  obtain ⟨l0, l1, l2⟩ := chkM_all h1
  simp only [List.mem_cons, List.not_mem_nil, or_false, forall_eq_or_imp, forall_eq] at l2
  have he : explW ms C.w D.w = foundW (ms.findIdx? (supM C.w D.w)) := by unfold explW; rw [if_neg (by simp [h1])]
  refine .callV (c_index p cp ms (.func (.func n_analogy_Explain_1) #[] #[.pointer (some ⟨b0, 0, none⟩), .pointer (some ⟨b1, 0, none⟩)]) rfl (supM C.w D.w) (ExpAt C D ms b0 b1) (fun R S hRS ⟨h0, h1, hC, hD, hm, hV⟩ => ⟨h0.mono hRS, h1.mono hRS, hC.mono hRS, hD.mono hRS, fun x hx => ⟨(hm x hx).1.mono hRS, (hm x hx).2.mono hRS⟩, hV.mono hRS⟩) hl fun x hx => FnV.of (by kernel_rfl) (c_exp1 C D ms b0 b1 x hx (hm x hx).2.2.1 (hm x hx).2.2.2 oc (by have := l1 x hx; omega) (by have := l1 x hx; omega) (by omega) (by omega)))
    (fun g => ⟨hM.mono g.R, g.cells (j := 0) rfl rfl rfl, g.cells (j := 1) rfl rfl rfl, hC.mono g.R, hD.mono g.R, fun x hx => ⟨(hM.2 x hx).1.mono g.R, (hM.2 x hx).2.mono g.R⟩, hV.mono g.R⟩) (.env (by (try simp only [liE, letsOf, letU, snd, List.append_nil]); rfl) (.ret rfl ?_))
  rw [he]
  cases hi : ms.findIdx? (supM C.w D.w) with
  | none => rfl
  | some i =>
    simp only [SV.den, SV.dens, BT.eval, IT.eval, Env.int, List.getElem?_cons_zero, List.getElem?_cons_succ]
    have key : ∀ (x y : Int) (b c : Bool), x = y → b = c → Value.tuple #[.int .i64 x, .bool b, .int .i64 0] = Value.tuple #[.int .i64 y, .bool c, .int .i64 0] := by rintro _ _ _ _ rfl rfl; rfl
    exact key _ _ _ _ (if_neg (show ¬ (0 : Int) > (i : Int) by omega)) (by simp [cm, foundW])
theorem c_Count (p : Option Addr) (cp : Nat) (ms : List MD) (C D : WD) (hm : ModelsOk ms) (hc : Wok C.w) (hd : Wok D.w) (oc : C.ok) (hl : ms.length < 2 ^ 62) : RetP Tryd.prog n_analogy_Count [slv p ms.length cp, C.v, D.v] (fun R => ModelsAt R p ms ∧ WordAt R C.p C.w ∧ WordAt R D.p D.w ∧ VarsOk R) (.tuple #[.int .i64 (countW ms C.w D.w).1, .int .i64 (countW ms C.w D.w).2]) := by
  refine Fn.of S_analogy_Count mx [.p p, .i ms.length, .i cp, .p C.p, .i C.w.length, .i C.cap, .p D.p, .i D.w.length, .i D.cap] rfl rfl fun c hp => .alloc fun b0 => ?_
  obtain ⟨hM, hC, hD, hV⟩ := hp
  refine .callV (c_check p cp ms (some ⟨b0, 0, none⟩) 2 [C, D] hm (by simp [hc, hd]) (by simp)) (fun g => ⟨hM.mono g.R, g.cells (j := 0) rfl rfl rfl, ?_⟩) (.env (by (try simp only [liE, letsOf, letU, snd, List.append_nil]); rfl) (.ite (fun h1 => .ret rfl ?_) (fun h1 => .chk (by ((try simp only [evE, liE, letsOf, letU, snd]); (try simp only [cmE])); omega) ?_)))
  · simp only [List.mem_cons, List.not_mem_nil, or_false]
    rintro x (rfl | rfl)
    · exact hC.mono g.R
    · exact hD.mono g.R
  · ((try simp only [evE, liE, letsOf, letU, snd] at h1); (try simp only [cmE] at h1))
    replace h1 : chkM ms [C.w, D.w] ≠ 0 := h1
    have : countW ms C.w D.w = (0, chkM ms [C.w, D.w]) := by unfold countW; rw [if_pos h1]
    rw [this]; rfl
  ((try simp only [evE, liE, letsOf, letU, snd] at h1); (try simp only [cmE] at h1))
  replace h1 : chkM ms [C.w, D.w] = 0 := h1
  obtain ⟨l0, l1, l2⟩ := chkM_all h1
  simp only [List.mem_cons, List.not_mem_nil, or_false, forall_eq_or_imp, forall_eq] at l2
  have he : countW ms C.w D.w = (((ms.countP (supM C.w D.w) : Nat) : Int), 0) := by unfold countW; rw [if_neg (by simp [h1])]
  rw [he]
  refine .loop (fun n us _ => ∃ (j : Nat), us = [.i ((ms.take j).countP (supM C.w D.w) : Nat), .i j] ∧ n + j = ms.length) ms.length ⟨0, rfl, rfl⟩ ?_
  rintro n _ m _ ⟨j, rfl, hn⟩
  refine .env (by (try simp only [liE, letsOf, letU, snd, List.append_nil]); rfl) (.ite (fun h2 => ?_) (fun h2 => .ret rfl ?_)) <;> ((try simp only [evE, liE, letsOf, letU, snd] at h2); (try simp only [cmE] at h2))
  · have hj : j < ms.length := by omega
    have hok := hm _ (List.getElem_mem hj)
    have hat := hM.2 _ (List.getElem_mem hj)
    have hle := l1 _ (List.getElem_mem hj)
    have hcn : (ms.take j).countP (supM C.w D.w) ≤ j := by have := List.countP_le_length (p := supM C.w D.w) (l := ms.take j); simp at this; omega
    refine .loadMD ms j hj (fun g => hM.1.mono g.R) (.env (by (try simp only [liE, letsOf, letU, snd, List.append_nil]); rfl) (.alloc fun b1 => .callV (c_supports ms[j].a ms[j].b C D hok.2.2.1 hok.2.2.2 oc (by omega) (by omega) (by omega) (by omega)) (fun g => ⟨hat.1.mono g.R, hat.2.mono g.R, hC.mono g.R, hD.mono g.R, hV.mono g.R⟩) (.env (by (try simp only [liE, letsOf, letU, snd, List.append_nil]); rfl) ?_)))
    refine .join (fun us _ => us = [.i ((ms.take (j + 1)).countP (supM C.w D.w) : Nat)]) (.ite (fun h3 => .again rfl ?_) (fun h3 => .again rfl ?_)) ?_
    · replace h3 : supM C.w D.w ms[j] = true := h3
      (simp only [evE, liE, letsOf, letU, snd, Sh.uss, Sh.us, atAddr, map_add0, List.append_nil])
      rw [add_i64 _ (by omega), countP_snoc hj, if_pos h3]
    · replace h3 : supM C.w D.w ms[j] = false := h3
      (simp only [evE, liE, letsOf, letU, snd, Sh.uss, Sh.us, atAddr, map_add0, List.append_nil])
      rw [countP_snoc hj, if_neg (by simp [h3]), Nat.add_zero]
    rintro _ _ _ rfl
    refine .env (by (try simp only [liE, letsOf, letU, snd, List.append_nil]); rfl) (.again rfl ⟨n - 1, by omega, j + 1, ?_, by omega⟩)
    (simp only [evE, liE, letsOf, letU, snd, Sh.uss, Sh.us, atAddr, map_add0, List.append_nil]); rw [add_i64 j (by omega)]
  · rw [List.take_of_length_le (by omega)]; rfl
theorem c_refCount0 (p : Option Addr) (cp : Nat) (ms : List MD) (C D : WD) (hm : ModelsOk ms) (oc : C.ok) (hl : ms.length < 2 ^ 62) (l1 : ∀ x ∈ ms, x.a.w.length ≤ 32 ∧ x.b.w.length ≤ 32) (lc : C.w.length < 2 ^ 38) (ld : D.w.length < 2 ^ 38) : RetP Tryd.prog n_ref30_count [slv p ms.length cp, C.v, D.v] (fun R => ModelsAt R p ms ∧ WordAt R C.p C.w ∧ WordAt R D.p D.w) (.int .i64 (ms.countP (supM C.w D.w) : Nat)) := by
  refine Fn.of S_ref30_count mx [.p p, .i ms.length, .i cp, .p C.p, .i C.w.length, .i C.cap, .p D.p, .i D.w.length, .i D.cap] rfl rfl fun c hp => ?_
  obtain ⟨hM, hC, hD⟩ := hp
  refine .loop (fun n us _ => ∃ (j : Nat), us = [.i ((ms.take j).countP (supM C.w D.w) : Nat), .i j] ∧ n + j = ms.length) ms.length ⟨0, rfl, rfl⟩ ?_
  rintro n _ m _ ⟨j, rfl, hn⟩
  refine .env (by (try simp only [liE, letsOf, letU, snd, List.append_nil]); rfl) (.chk (by ((try simp only [evE, liE, letsOf, letU, snd]); (try simp only [cmE])); omega) (.ite (fun h2 => ?_) (fun h2 => .ret rfl ?_))) <;> ((try simp only [evE, liE, letsOf, letU, snd] at h2); (try simp only [cmE] at h2))
  · have hj : j < ms.length := by omega
    have hok := hm _ (List.getElem_mem hj)
    have hat := hM.2 _ (List.getElem_mem hj)
    have hle := l1 _ (List.getElem_mem hj)
    have hcn : (ms.take j).countP (supM C.w D.w) ≤ j := by have := List.countP_le_length (p := supM C.w D.w) (l := ms.take j); simp at this; omega
    refine .loadMD ms j hj (fun g => hM.1.mono g.R) (.env (by (try simp only [liE, letsOf, letU, snd, List.append_nil]); rfl) (.callV (c_refSup ms[j].a ms[j].b C D hok.2.2.1 hok.2.2.2 oc (by omega) (by omega) (by omega) (by omega)) (fun g => ⟨hat.1.mono g.R, hat.2.mono g.R, hC.mono g.R, hD.mono g.R⟩) (.env (by (try simp only [liE, letsOf, letU, snd, List.append_nil]); rfl) ?_)))
    refine .join (fun us _ => us = [.i ((ms.take (j + 1)).countP (supM C.w D.w) : Nat)]) (.ite (fun h3 => .again rfl ?_) (fun h3 => .again rfl ?_)) ?_
    · replace h3 : supM C.w D.w ms[j] = true := h3
      (simp only [evE, liE, letsOf, letU, snd, Sh.uss, Sh.us, atAddr, map_add0, List.append_nil])
      rw [add_i64 _ (by omega), countP_snoc hj, if_pos h3]
    · replace h3 : supM C.w D.w ms[j] = false := h3
      (simp only [evE, liE, letsOf, letU, snd, Sh.uss, Sh.us, atAddr, map_add0, List.append_nil])
      rw [countP_snoc hj, if_neg (by simp [h3]), Nat.add_zero]
    rintro _ _ _ rfl
    refine .env (by (try simp only [liE, letsOf, letU, snd, List.append_nil]); rfl) (.again rfl ⟨n - 1, by omega, j + 1, ?_, by omega⟩)
    (simp only [evE, liE, letsOf, letU, snd, Sh.uss, Sh.us, atAddr, map_add0, List.append_nil]); rw [add_i64 j (by omega)]
  · rw [List.take_of_length_le (by omega)]; rfl
theorem c_refCount (p : Option Addr) (cp : Nat) (ms : List MD) (C D : WD) (hm : ModelsOk ms) (hc : Wok C.w) (hd : Wok D.w) (oc : C.ok) (hl : ms.length < 2 ^ 62) : RetP Tryd.prog n_ref30_Count [slv p ms.length cp, C.v, D.v] (fun R => ModelsAt R p ms ∧ WordAt R C.p C.w ∧ WordAt R D.p D.w) (.tuple #[.int .i64 (countW ms C.w D.w).1, .int .i64 (countW ms C.w D.w).2]) := by
  refine Fn.of S_ref30_Count mx [.p p, .i ms.length, .i cp, .p C.p, .i C.w.length, .i C.cap, .p D.p, .i D.w.length, .i D.cap] rfl rfl fun c hp => .alloc fun b0 => ?_
  obtain ⟨hM, hC, hD⟩ := hp
  refine .callV (c_ref30check p cp ms (some ⟨b0, 0, none⟩) 2 [C, D] hm (by simp [hc, hd]) (by simp)) (fun g => ⟨hM.mono g.R, g.cells (j := 0) rfl rfl rfl, ?_⟩) (.env (by (try simp only [liE, letsOf, letU, snd, List.append_nil]); rfl) (.ite (fun h1 => .ret rfl ?_) (fun h1 => ?_)))
  · simp only [List.mem_cons, List.not_mem_nil, or_false]
    rintro x (rfl | rfl)
    · exact hC.mono g.R
    · exact hD.mono g.R
  · ((try simp only [evE, liE, letsOf, letU, snd] at h1); (try simp only [cmE] at h1))
    replace h1 : chkM ms [C.w, D.w] ≠ 0 := h1
    have : countW ms C.w D.w = (0, chkM ms [C.w, D.w]) := by unfold countW; rw [if_pos h1]
    rw [this]; rfl
  ((try simp only [evE, liE, letsOf, letU, snd] at h1); (try simp only [cmE] at h1))
  replace h1 : chkM ms [C.w, D.w] = 0 := h1
  obtain ⟨l0, l1, l2⟩ := chkM_all h1
  simp only [List.mem_cons, List.not_mem_nil, or_false, forall_eq_or_imp, forall_eq] at l2
  have he : countW ms C.w D.w = (((ms.countP (supM C.w D.w) : Nat) : Int), 0) := by unfold countW; rw [if_neg (by simp [h1])]
  rw [he]
  exact .callV (c_refCount0 p cp ms C D hm oc hl l1 (by omega) (by omega)) (fun g => ⟨hM.mono g.R, hC.mono g.R, hD.mono g.R⟩) (.ret rfl rfl)
theorem c_refExplain (p : Option Addr) (cp : Nat) (ms : List MD) (C D : WD) (hm : ModelsOk ms) (hc : Wok C.w) (hd : Wok D.w) (oc : C.ok) (hl : ms.length < 2 ^ 62) : RetP Tryd.prog n_ref30_Explain [slv p ms.length cp, C.v, D.v] (fun R => ModelsAt R p ms ∧ WordAt R C.p C.w ∧ WordAt R D.p D.w) (.tuple #[.int .i64 (explW ms C.w D.w).1, .bool (explW ms C.w D.w).2.1, .int .i64 (explW ms C.w D.w).2.2]) := by
  refine Fn.of S_ref30_Explain mx [.p p, .i ms.length, .i cp, .p C.p, .i C.w.length, .i C.cap, .p D.p, .i D.w.length, .i D.cap] rfl rfl fun c hp => .alloc fun b0 => ?_
  obtain ⟨hM, hC, hD⟩ := hp
  refine .callV (c_ref30check p cp ms (some ⟨b0, 0, none⟩) 2 [C, D] hm (by simp [hc, hd]) (by simp)) (fun g => ⟨hM.mono g.R, g.cells (j := 0) rfl rfl rfl, ?_⟩) (.env (by (try simp only [liE, letsOf, letU, snd, List.append_nil]); rfl) (.ite (fun h1 => .ret rfl ?_) (fun h1 => ?_)))
  · simp only [List.mem_cons, List.not_mem_nil, or_false]
    rintro x (rfl | rfl)
    · exact hC.mono g.R
    · exact hD.mono g.R
  · ((try simp only [evE, liE, letsOf, letU, snd] at h1); (try simp only [cmE] at h1))
    replace h1 : chkM ms [C.w, D.w] ≠ 0 := h1
    have : explW ms C.w D.w = (0, false, chkM ms [C.w, D.w]) := by unfold explW; rw [if_pos h1]
    rw [this]; rfl
  ((try simp only [evE, liE, letsOf, letU, snd] at h1); (try simp only [cmE] at h1))
  replace h1 : chkM ms [C.w, D.w] = 0 := h1
  obtain ⟨l0, l1, l2⟩ := chkM_all h1
  simp only [List.mem_cons, List.not_mem_nil, or_false, forall_eq_or_imp, forall_eq] at l2
  have he : explW ms C.w D.w = foundW (ms.findIdx? (supM C.w D.w)) := by unfold explW; rw [if_neg (by simp [h1])]
  rw [he]
  refine .loop (fun n us _ => ∃ (j : Nat), us = [.i 0, .b false, .i 0, .i j] ∧ n + j = ms.length ∧ ∀ i (hi : i < ms.length), i < j → supM C.w D.w ms[i] = false) ms.length ⟨0, rfl, rfl, fun i hi h => by omega⟩ ?_
  rintro n _ m _ ⟨j, rfl, hn, hb⟩
  refine .env (by (try simp only [liE, letsOf, letU, snd, List.append_nil]); rfl) (.chk (by ((try simp only [evE, liE, letsOf, letU, snd]); (try simp only [cmE])); omega) (.ite (fun h2 => ?_) (fun h2 => .ret rfl ?_))) <;> ((try simp only [evE, liE, letsOf, letU, snd] at h2); (try simp only [cmE] at h2))
  · have hj : j < ms.length := by omega
    have hok := hm _ (List.getElem_mem hj)
    have hat := hM.2 _ (List.getElem_mem hj)
    have hle := l1 _ (List.getElem_mem hj)
    refine .loadMD ms j hj (fun g => hM.1.mono g.R) (.env (by (try simp only [liE, letsOf, letU, snd, List.append_nil]); rfl) (.callV (c_refSup ms[j].a ms[j].b C D hok.2.2.1 hok.2.2.2 oc (by omega) (by omega) (by omega) (by omega)) (fun g => ⟨hat.1.mono g.R, hat.2.mono g.R, hC.mono g.R, hD.mono g.R⟩) (.env (by (try simp only [liE, letsOf, letU, snd, List.append_nil]); rfl) (.ite (fun h3 => .ret rfl ?_) (fun h3 => .again rfl ⟨n - 1, by omega, j + 1, ?_, by omega, ?_⟩)))))
    · replace h3 : supM C.w D.w ms[j] = true := h3
      rw [findIdx?_at hj h3 hb]; rfl
    · (simp only [evE, liE, letsOf, letU, snd, Sh.uss, Sh.us, atAddr, map_add0, List.append_nil]); rw [add_i64 j (by omega)]
    · replace h3 : supM C.w D.w ms[j] = false := h3
      intro i hi hij
      rcases Nat.lt_or_ge i j with h | h
      · exact hb i hi h
      · have : i = j := by omega
        subst this; exact h3
  · rw [findIdx?_none fun i hi => hb i hi (by omega)]; rfl
end Go.Proofs.YtpbbnmjkbfbelaaDoor
/- Chapter 30: the reference's Extend. -/
namespace Go.Sy
open Go Go.RowKit
section
variable {P : Program} {c : Cx} {L : List Nat} {ρ : Env} {blks : List Blk} {m : Mem} {R : Value → HW → Prop} {Dn : Nat → List U → HW → Prop} {A : List (List U → HW → Prop)}
/-- A model's two words, by two loads. -/
theorem DenM.loadMD2 {i : Nat} {I len : IT} {k : Tree} (l : List MD) (j : Nat) (hj : j < l.length) (hw : Good c L m → Cells (vw c L ρ blks m) (ρ.ptr i) (mcells l)) (hw2 : Good c L m → Cells (vw c L (ρ ++ [U.p l[j].a.p, U.i l[j].a.w.length, U.i l[j].a.cap]) blks m) ((ρ ++ [U.p l[j].a.p, U.i l[j].a.w.length, U.i l[j].a.cap]).ptr i) (mcells l))
    (hk : DenM P R Dn k L (ρ ++ [.p l[j].a.p, .i l[j].a.w.length, .i l[j].a.cap] ++ [.p l[j].b.p, .i l[j].b.w.length, .i l[j].b.cap]) c m A) (hI : I.eval ρ = (j : Int) := by rfl) (hn : len.eval ρ = (l.length : Int) := by rfl)
    (hI2 : I.eval (ρ ++ [U.p l[j].a.p, U.i l[j].a.w.length, U.i l[j].a.cap]) = (j : Int) := by rfl) (hn2 : len.eval (ρ ++ [U.p l[j].a.p, U.i l[j].a.w.length, U.i l[j].a.cap]) = (l.length : Int) := by rfl) :
    DenM P R Dn (.chk (.pick (.cmp .geq I (.lit 0)) (.pick (.cmp .lss I len) (.some i) (.lit false)) (.lit false)) (.chk (.pick (.cmp .geq (.off I 2 (.lit 0)) (.lit 0)) (.some i) (.lit false)) (.load i (.off I 2 (.lit 0)) [.sl] blks
      (.chk (.pick (.cmp .geq I (.lit 0)) (.pick (.cmp .lss I len) (.some i) (.lit false)) (.lit false)) (.chk (.pick (.cmp .geq (.off I 2 (.lit 0)) (.lit 0)) (.some i) (.lit false)) (.load i (.off (.lit 1) 1 (.off I 2 (.lit 0))) [.sl] blks k)))))) L ρ c m A := fun g => by
  have hcs := mcells_at l j hj
  obtain ⟨b, o, hpe⟩ := (hw g).some (i := j * 2) (by rw [mcells_len]; omega)
  obtain ⟨b2, o2, hpe2⟩ := (hw2 g).some (i := j * 2) (by rw [mcells_len]; omega)
  have h1 : (BT.pick (.cmp .geq I (.lit 0)) (.pick (.cmp .lss I len) (.some i) (.lit false)) (.lit false)).eval ρ = true := by
    simp only [BT.eval, IT.eval, hI, hn, hpe, cm, pick_and]; simp; omega
  have h2 : (BT.pick (.cmp .geq (.off I 2 (.lit 0)) (.lit 0)) (.some i) (.lit false)).eval ρ = true := by
    simp only [BT.eval, IT.eval, hI, hpe, cm, pick_and]; simp; omega
  have h3 : (BT.pick (.cmp .geq I (.lit 0)) (.pick (.cmp .lss I len) (.some i) (.lit false)) (.lit false)).eval (ρ ++ [U.p l[j].a.p, U.i l[j].a.w.length, U.i l[j].a.cap]) = true := by
    simp only [BT.eval, IT.eval, hI2, hn2, hpe2, cm, pick_and]; simp; omega
  have h4 : (BT.pick (.cmp .geq (.off I 2 (.lit 0)) (.lit 0)) (.some i) (.lit false)).eval (ρ ++ [U.p l[j].a.p, U.i l[j].a.w.length, U.i l[j].a.cap]) = true := by
    simp only [BT.eval, IT.eval, hI2, hpe2, cm, pick_and]; simp; omega
  exact DenM.chk h1 (.chk h2 (.loadS (mcells l) (j * 2) l[j].a.p l[j].a.w.length l[j].a.cap (by simp only [IT.eval, hI]; simp) hcs.1 hw (.chk h3 (.chk h4 (.loadS (mcells l) (j * 2 + 1) l[j].b.p l[j].b.w.length l[j].b.cap (by simp only [IT.eval, hI2]; simp <;> omega) hcs.2 hw2 hk))))) g
end
/-- How many models of ms have w. -/
def votes (ms : List MD) (c w : List Snd) : Nat := ms.countP (supM c w)
/-- The better of what was best and what comes next. -/
def stepE (N : List Snd → Nat) (s : List Snd × Nat) : Option (List Snd) → List Snd × Nat
  | none => s
  | some w => if w.length > 32 then s else if N w > s.2 ∨ (N w = s.2 ∧ ordW w s.1 < 0) then (w, N w) else s
def optsM (c : List Snd) (m : MD) : List (Option (List Snd)) := [solveW m.a.w m.b.w c, frontW m.a.w m.b.w c]
def bestE (ms ks : List MD) (c : List Snd) : List Snd × Nat := (ks.flatMap (optsM c)).foldl (stepE (votes ms c)) ([], 0)
def extW (ms : List MD) (c : List Snd) : List Snd × Int × Int := if chkM ms [c] ≠ 0 then ([], 0, chkM ms [c]) else if (bestE ms ms c).2 = 0 then ([], 0, 5) else ((bestE ms ms c).1, ((bestE ms ms c).2 : Nat), 0)
def ExtR (et : TypeId) (mq : Mem) (v : Value) (r : List Snd × Int × Int) : Prop := ∃ q cq, v = .tuple #[slv q r.1.length cq, .int .i64 r.2.1, .int .i64 r.2.2] ∧ RowW mq et q cq r.1
theorem bestE_snoc {ms ks : List MD} {c : List Snd} {j : Nat} (hj : j < ks.length) : bestE ms (ks.take (j + 1)) c = (optsM c ks[j]).foldl (stepE (votes ms c)) (bestE ms (ks.take j) c) := by
  unfold bestE
  rw [List.take_succ_eq_append_getElem hj, List.flatMap_append, List.foldl_append]; simp
theorem stepE_len {N : List Snd → Nat} {s : List Snd × Nat} {o : Option (List Snd)} (h : s.1.length ≤ 32) : (stepE N s o).1.length ≤ 32 := by
  cases o with
  | none => exact h
  | some w =>
    by_cases h1 : w.length > 32
    · rw [show stepE N s (some w) = s from if_pos h1]; exact h
    · rw [show stepE N s (some w) = if N w > s.2 ∨ (N w = s.2 ∧ ordW w s.1 < 0) then (w, N w) else s from if_neg h1]
      split
      · show w.length ≤ 32; omega
      · exact h
theorem ordS_neg (s t : Snd) : decide (ordS s t < 0) = (if s.1 = t.1 then decide (s.2 < t.2) else decide (s.1 < t.1)) := by
  unfold ordS
  rcases Nat.lt_trichotomy s.1 t.1 with h | h | h
  · rw [if_pos h, if_neg (by omega)]; simp [h]
  · rw [if_neg (by omega), if_neg (by omega), if_pos h]
    rcases Nat.lt_trichotomy s.2 t.2 with h | h | h
    · rw [if_pos h]; simp [h]
    · rw [if_neg (by omega), if_neg (by omega)]; simp [h]
    · rw [if_neg (by omega), if_pos h]; simp; omega
  · rw [if_neg (by omega), if_pos h, if_neg (by omega)]; simp; omega
theorem ordS_flip (s t : Snd) : ordS t s = - ordS s t := by
  unfold ordS
  rcases Nat.lt_trichotomy s.1 t.1 with h | h | h
  · rw [if_neg (by omega), if_pos h, if_pos h]; rfl
  · rw [if_neg (by omega), if_neg (by omega), if_neg (by omega : ¬ s.1 < t.1), if_neg (by omega : ¬ t.1 < s.1)]
    rcases Nat.lt_trichotomy s.2 t.2 with h | h | h
    · rw [if_neg (by omega), if_pos h, if_pos h]; rfl
    · rw [if_neg (by omega), if_neg (by omega), if_neg (by omega), if_neg (by omega)]; rfl
    · rw [if_pos h, if_neg (by omega), if_pos h]
  · rw [if_pos h, if_neg (by omega : ¬ s.1 < t.1), if_pos h]
end Go.Sy
namespace Go.Proofs.YtpbbnmjkbfbelaaDoor
open Go Go.Sy Go.RowKit
theorem c_before (s t : Snd) : Ret Tryd.prog n_ref02_before [snd s, snd t] (.bool (decide (ordS s t < 0))) := by
  refine Fn.of S_ref02_before mx [.i s.1, .i s.2, .i t.1, .i t.2] rfl rfl fun c _ => .alloc fun b0 => .alloc fun b1 => .ite (fun h1 => .ite (fun h2 => .ret rfl ?_) (fun h2 => .ret rfl ?_)) (fun h1 => .ret rfl ?_) <;> ((try simp only [evE, liE, letsOf, letU, snd] at h1); (try simp only [cmE] at h1))
  · ((try simp only [evE, liE, letsOf, letU, snd] at h2); (try simp only [cmE] at h2)); omega
  · rw [ordS_neg, if_pos (by omega)]
    show Value.bool (cm .lss (s.2 : Int) (t.2 : Int)) = _
    simp [cm]
  · rw [ordS_neg, if_neg (by omega)]
    show Value.bool (bif cm .lss (s.1 : Int) (t.1 : Int) then true else false) = _
    simp only [cm, Int.ofNat_lt]
    cases decide (s.1 < t.1) <;> rfl
theorem c_refOrder (p q : Option Addr) (ca cb : Nat) (a b : List Snd) (hla : a.length < 2 ^ 40) (hlb : b.length < 2 ^ 40) : RetP Tryd.prog n_ref02_Order [slv p a.length ca, slv q b.length cb] (fun R => WordAt R p a ∧ WordAt R q b) (.int .i64 (ordW a b)) := by
  refine Fn.of S_ref02_Order mx [.p p, .i a.length, .i ca, .p q, .i b.length, .i cb] rfl rfl fun c hp => ?_
  refine .loop (fun n us _ => ∃ (e : Int) (j : Nat), us = [.i e, .i j] ∧ n + j = a.length ∧ j ≤ b.length ∧ ordW a b = ordW (a.drop j) (b.drop j)) a.length ⟨0, 0, rfl, rfl, Nat.zero_le _, rfl⟩ ?_
  rintro n _ m _ ⟨e, j, rfl, hn, hjb, ho⟩
  refine .join (fun us _ => us = [.b (decide (j < a.length ∧ j < b.length))]) (.chk (by ((try simp only [evE, liE, letsOf, letU, snd]); (try simp only [cmE])); omega) (.ite (fun h1 => .chk (by ((try simp only [evE, liE, letsOf, letU, snd]); (try simp only [cmE])); omega) (.again rfl ?_)) (fun h1 => .again rfl ?_))) ?_
  · ((try simp only [evE, liE, letsOf, letU, snd] at h1); (try simp only [cmE] at h1)); (simp only [evE, liE, letsOf, letU, snd, Sh.uss, Sh.us, atAddr, map_add0, List.append_nil])
    simp only [cm, Int.ofNat_lt]
    have : j < a.length := by omega
    simp [this]
  · ((try simp only [evE, liE, letsOf, letU, snd] at h1); (try simp only [cmE] at h1)); (simp only [evE, liE, letsOf, letU, snd, Sh.uss, Sh.us, atAddr, map_add0, List.append_nil])
    have : ¬ j < a.length := by omega
    simp [this]
  rintro _ m2 _ rfl
  refine .env (by (try simp only [liE, letsOf, letU, snd, List.append_nil]); rfl) (.ite (fun h1 => ?_) (fun h1 => .chk (by ((try simp only [evE, liE, letsOf, letU, snd]); (try simp only [cmE])); omega) (.chk (by ((try simp only [evE, liE, letsOf, letU, snd]); (try simp only [cmE])); omega) (.ite (fun h2 => .ret rfl ?_) (fun h2 => .chk (by ((try simp only [evE, liE, letsOf, letU, snd]); (try simp only [cmE])); omega) (.chk (by ((try simp only [evE, liE, letsOf, letU, snd]); (try simp only [cmE])); omega) (.ite (fun h3 => .ret rfl ?_) (fun h3 => .ret rfl ?_))))))))
  · replace h1 : decide (j < a.length ∧ j < b.length) = true := h1
    obtain ⟨ha, hb⟩ := of_decide_eq_true h1
    rw [ordW_drop ha hb] at ho
    refine .loadW a j ha (fun g => hp.1.mono g.R) (.env (by (try simp only [liE, letsOf, letU, snd, List.append_nil]); rfl) (.loadW b j hb (fun g => hp.2.mono g.R) (.env (by (try simp only [liE, letsOf, letU, snd, List.append_nil]); rfl) (.callV (c_before a[j] b[j]) (fun _ => trivial) (.env (by (try simp only [liE, letsOf, letU, snd, List.append_nil]); rfl) (.ite (fun h2 => .ret rfl ?_) (fun h2 => ?_)))))))
    · replace h2 : decide (ordS a[j] b[j] < 0) = true := h2
      have h2 := of_decide_eq_true h2
      rw [ho, if_pos (by omega)]
      rcases ordS_range a[j] b[j] with h | h | h <;> rw [h] at h2 ⊢ <;> first | rfl | omega
    · replace h2 : decide (ordS a[j] b[j] < 0) = false := h2
      have h2 := of_decide_eq_false h2
      refine .loadW b j hb (fun g => hp.2.mono g.R) (.env (by (try simp only [liE, letsOf, letU, snd, List.append_nil]); rfl) (.loadW a j ha (fun g => hp.1.mono g.R) (.env (by (try simp only [liE, letsOf, letU, snd, List.append_nil]); rfl) (.callV (c_before b[j] a[j]) (fun _ => trivial) (.env (by (try simp only [liE, letsOf, letU, snd, List.append_nil]); rfl) (.ite (fun h3 => .ret rfl ?_) (fun h3 => .again rfl ⟨n - 1, by omega, e, j + 1, ?_, by omega, by omega, ?_⟩)))))))
      · replace h3 : decide (ordS b[j] a[j] < 0) = true := h3
        have h3 := of_decide_eq_true h3
        rw [ordS_flip] at h3
        rw [ho, if_pos (by omega)]
        rcases ordS_range a[j] b[j] with h | h | h <;> rw [h] at h3 ⊢ <;> first | rfl | omega
      · (simp only [evE, liE, letsOf, letU, snd, Sh.uss, Sh.us, atAddr, map_add0, List.append_nil]); rw [add_i64 j (by omega)]
      · replace h3 : decide (ordS b[j] a[j] < 0) = false := h3
        have h3 := of_decide_eq_false h3
        rw [ordS_flip] at h3
        rw [ho, if_neg (by omega)]
  all_goals
    replace h1 : decide (j < a.length ∧ j < b.length) = false := h1
    have h1 := of_decide_eq_false h1
    rw [ho, ordW_end (by omega) (by omega) hjb]
    ((try simp only [evE, liE, letsOf, letU, snd] at h2); (try simp only [cmE] at h2))
  · rw [if_pos (by omega)]; rfl
  · ((try simp only [evE, liE, letsOf, letU, snd] at h3); (try simp only [cmE] at h3)); rw [if_neg (by omega), if_pos (by omega)]; rfl
  · ((try simp only [evE, liE, letsOf, letU, snd] at h3); (try simp only [cmE] at h3)); rw [if_neg (by omega), if_neg (by omega)]; rfl
set_option maxHeartbeats 1000000 in
theorem c_refExtend (p : Option Addr) (cp : Nat) (ms : List MD) (C : WD) (hm : ModelsOk ms) (hc : Wok C.w) (oc : C.ok) (hl : ms.length < 2 ^ 62) : FnM Tryd.prog n_ref30_Extend [slv p ms.length cp, C.v] (fun R => ModelsAt R p ms ∧ WordAt R C.p C.w) fun v mq _ => ExtR 31 mq v (extW ms C.w) := by
  refine FnM.of S_ref30_Extend mx [.p p, .i ms.length, .i cp, .p C.p, .i C.w.length, .i C.cap] rfl rfl fun c hp => .alloc fun b0 => ?_
  obtain ⟨hM, hC⟩ := hp
  refine .callV (c_ref30check p cp ms (some ⟨b0, 0, none⟩) 1 [C] hm (by simp [hc]) (by simp)) (fun g => ⟨hM.mono g.R, g.cells (j := 0) rfl rfl rfl, ?_⟩) (.env (by (try simp only [liE, letsOf, letU, snd, List.append_nil]); rfl) (.ite (fun h1 => .ret rfl ?_) (fun h1 => ?_)))
  · simp only [List.mem_cons, List.not_mem_nil, or_false]
    rintro x rfl
    exact hC.mono g.R
  · ((try simp only [evE, liE, letsOf, letU, snd] at h1); (try simp only [cmE] at h1))
    replace h1 : chkM ms [C.w] ≠ 0 := h1
    have : extW ms C.w = ([], 0, chkM ms [C.w]) := by unfold extW; rw [if_pos h1]
    rw [this]; exact ⟨none, 0, rfl, .of (Row.nil _ _ _)⟩
  ((try simp only [evE, liE, letsOf, letU, snd] at h1); (try simp only [cmE] at h1))
  replace h1 : chkM ms [C.w] = 0 := h1
  rw [show chkM ms (List.map (fun x : WD => x.w) [C]) = 0 from h1]
  obtain ⟨l0, l1, l2⟩ := chkM_all h1
  simp only [List.mem_cons, List.not_mem_nil, or_false, forall_eq] at l2
  have he : extW ms C.w = (if (bestE ms ms C.w).2 = 0 then ([], 0, 5) else ((bestE ms ms C.w).1, (((bestE ms ms C.w).2 : Nat) : Int), 0) : List Snd × Int × Int) := by unfold extW; rw [if_neg (by simp [h1])]
  rw [he]
  refine .loop (fun n us mm => ∃ (j : Nat) (q : Option Addr) (cq : Nat) (s : List Snd × Nat), us = [.p q, .i s.1.length, .i cq, .i s.2, .i j] ∧ n + j = ms.length ∧ bestE ms (ms.take j) C.w = s ∧ RowW mm 31 q cq s.1 ∧ s.1.length ≤ 32) ms.length ⟨0, none, 0, ([], 0), rfl, rfl, rfl, .of (Row.nil _ _ _), Nat.zero_le _⟩ ?_
  rintro n _ m _ ⟨j, q, cq, s, rfl, hn, hs, hr, hsl⟩
  refine .env (by (try simp only [liE, letsOf, letU, snd, List.append_nil]); rfl) (.chk (by ((try simp only [evE, liE, letsOf, letU, snd]); (try simp only [cmE])); omega) (.ite (fun h2 => ?_) (fun h2 => ?_))) <;> ((try simp only [evE, liE, letsOf, letU, snd] at h2); (try simp only [cmE] at h2))
  · have hj : j < ms.length := by omega
    have hok := hm _ (List.getElem_mem hj)
    have hat := hM.2 _ (List.getElem_mem hj)
    have hle := l1 _ (List.getElem_mem hj)
    refine .loop (fun n us mm => ∃ (k : Nat) (q : Option Addr) (cq : Nat) (t : List Snd × Nat), us = [.p q, .i t.1.length, .i cq, .i t.2, .i k] ∧ n + k = 2 ∧ ((optsM C.w ms[j]).take k).foldl (stepE (votes ms C.w)) s = t ∧ RowW mm 31 q cq t.1 ∧ t.1.length ≤ 32) 2 ⟨0, q, cq, s, (by (simp only [evE, liE, letsOf, letU, snd, Sh.uss, Sh.us, atAddr, map_add0, List.append_nil]) <;> rfl), rfl, rfl, hr, hsl⟩ ?_
    clear hr
    rintro n1 _ m _ ⟨k, q, cq, t, rfl, hn1, ht, hr, htl⟩
    refine .env (by (try simp only [liE, letsOf, letU, snd, List.append_nil]); rfl) (.ite (fun h3 => ?_) (fun h3 => .again rfl ⟨n - 1, by omega, j + 1, q, cq, t, ?_, by omega, ?_, hr, htl⟩)) <;> ((try simp only [evE, liE, letsOf, letU, snd] at h3); (try simp only [cmE] at h3))
    · have hk : k < 2 := by omega
      have hko : ∃ o, (optsM C.w ms[j])[k]? = some o ∧ (k = 0 → o = solveW ms[j].a.w ms[j].b.w C.w) ∧ (k = 1 → o = frontW ms[j].a.w ms[j].b.w C.w) := by
        obtain rfl | rfl : k = 0 ∨ k = 1 := by omega
        · exact ⟨_, rfl, fun _ => rfl, fun h => by omega⟩
        · exact ⟨_, rfl, fun h => by omega, fun _ => rfl⟩
      obtain ⟨o, hko, hk0, hk1⟩ := hko
      have ht' : ((optsM C.w ms[j]).take (k + 1)).foldl (stepE (votes ms C.w)) s = stepE (votes ms C.w) t o := by
        have hk2 : k < (optsM C.w ms[j]).length := hk
        rw [List.take_succ_eq_append_getElem hk2, List.foldl_append, ht]
        rw [List.getElem?_eq_getElem hk2] at hko
        simp [Option.some.inj hko]
      -- the next
      refine .join (fun us mm => ∃ (q : Option Addr) (cq : Nat), us = [.p q, .i (stepE (votes ms C.w) t o).1.length, .i cq, .i (stepE (votes ms C.w) t o).2] ∧ RowW mm 31 q cq (stepE (votes ms C.w) t o).1) ?_ ?_
      · refine .loadMD2 ms j hj (fun g => hM.1.mono g.R) (fun g => hM.1.mono g.R) (.env (by (try simp only [liE, letsOf, letU, snd, List.append_nil]); rfl) (.callM (c_refSolve0 ms[j].a ms[j].b C hok.2.2.1 hok.2.2.2 oc (by omega) (by omega) (by omega)) rfl rfl (fun g => ⟨hat.1.mono g.R, hat.2.mono g.R, hC.mono g.R⟩) ?_))
        rintro v mq hf ⟨qx, cx, rfl, hx⟩
        replace hx := hx.joinR fun b hb => (hf b hb).1
        replace hr := hr.joinL (mq := mq)
        generalize m.join mq = m1 at *
        refine ⟨[.p qx, .i (((solveW ms[j].a.w ms[j].b.w C.w).getD []).length : Nat), .i (cx : Nat), .b (solveW ms[j].a.w ms[j].b.w C.w).isSome], uOk_of rfl, (opt_fresh _ _ _ _ _ _).symm, .env (by (try simp only [liE, letsOf, letU, snd, List.append_nil]); rfl) ?_⟩
        refine .join (fun us mm => ∃ (qo : Option Addr) (co : Nat), us = [.p qo, .i ((o.getD []).length : Nat), .i co, .b o.isSome] ∧ RowW mm 31 qo co (o.getD []) ∧ RowW mm 31 q cq t.1) (.ite (fun h4 => ?_) (fun h4 => .again rfl ⟨qx, cx, ?_, ?_, hr⟩)) ?_
        · ((try simp only [evE, liE, letsOf, letU, snd] at h4); (try simp only [cmE] at h4))
          have e1 := hk1 (by omega)
          refine .loadMD2 ms j hj (fun g => hM.1.mono g.R) (fun g => hM.1.mono g.R) (.env (by (try simp only [liE, letsOf, letU, snd, List.append_nil]); rfl) (.callM (c_refFront0 ms[j].a ms[j].b C (by omega) (by omega) (by omega)) rfl rfl (fun g => ⟨hat.1.mono g.R, hat.2.mono g.R, hC.mono g.R⟩) ?_))
          rintro v mq2 hf2 ⟨qy, cy, rfl, hy⟩
          rw [← e1] at hy ⊢
          refine ⟨[.p qy, .i ((o.getD []).length : Nat), .i (cy : Nat), .b o.isSome], uOk_of rfl, (opt_fresh _ _ _ _ _ _).symm, .env (by (try simp only [liE, letsOf, letU, snd, List.append_nil]); rfl) (.again rfl ⟨qy, cy, (by (simp only [evE, liE, letsOf, letU, snd, Sh.uss, Sh.us, atAddr, map_add0, List.append_nil]) <;> rfl), hy.joinR fun b hb => (hf2 b hb).1, hr.joinL⟩)⟩
        · ((try simp only [evE, liE, letsOf, letU, snd] at h4); (try simp only [cmE] at h4))
          rw [← hk0 (by omega)]; exact (by (simp only [evE, liE, letsOf, letU, snd, Sh.uss, Sh.us, atAddr, map_add0, List.append_nil]) <;> rfl)
        · ((try simp only [evE, liE, letsOf, letU, snd] at h4); (try simp only [cmE] at h4))
          rw [← hk0 (by omega)] at hx; exact hx
        clear hx hf hr
        rintro _ m2 _ ⟨qo, co, rfl, ho, hr⟩
        refine .env (by (try simp only [liE, letsOf, letU, snd, List.append_nil]); rfl) (.ite (fun h4 => .again rfl ⟨q, cq, ?_, ?_⟩) (fun h4 => .chk (by ((try simp only [evE, liE, letsOf, letU, snd]); (try simp only [cmE])); omega) (.ite (fun h5 => .again rfl ⟨q, cq, ?_, ?_⟩) (fun h5 => ?_))))
        · replace h4 : (!o.isSome) = true := h4
          have : o = none := by cases o <;> simp_all
          subst this; exact (by (simp only [evE, liE, letsOf, letU, snd, Sh.uss, Sh.us, atAddr, map_add0, List.append_nil]) <;> rfl)
        · replace h4 : (!o.isSome) = true := h4
          have : o = none := by cases o <;> simp_all
          subst this; exact hr
        all_goals
          replace h4 : (!o.isSome) = false := h4
          obtain ⟨w, rfl⟩ : ∃ w, o = some w := by cases o <;> simp_all
          ((try simp only [evE, liE, letsOf, letU, snd] at h5); (try simp only [cmE] at h5))
          simp only [Option.getD_some] at h5
        · have : stepE (votes ms C.w) t (some w) = t := if_pos (by omega)
          rw [this]; exact (by (simp only [evE, liE, letsOf, letU, snd, Sh.uss, Sh.us, atAddr, map_add0, List.append_nil]) <;> rfl)
        · have : stepE (votes ms C.w) t (some w) = t := if_pos (by omega)
          rw [this]; exact hr
        have hw : w.length ≤ 32 := by omega
        have hst : stepE (votes ms C.w) t (some w) = if votes ms C.w w > t.2 ∨ (votes ms C.w w = t.2 ∧ ordW w t.1 < 0) then (w, votes ms C.w w) else t := if_neg (by omega)
        refine .callV (c_refCount0 p cp ms C ⟨qo, co, w⟩ hm oc hl l1 (by omega) (by show w.length < _; omega)) (fun g => ⟨hM.mono g.R, hC.mono g.R, ho.reads g⟩) (.env (by (try simp only [liE, letsOf, letU, snd, List.append_nil]); rfl) ?_)
        refine .join (fun us mm => mm = m2 ∧ us = [.b (decide (votes ms C.w w > t.2 ∨ (votes ms C.w w = t.2 ∧ ordW w t.1 < 0)))]) (.ite (fun h6 => .ite (fun h7 => ?_) (fun h7 => .again rfl ⟨rfl, ?_⟩)) (fun h6 => .again rfl ⟨rfl, ?_⟩)) ?_
        · ((try simp only [evE, liE, letsOf, letU, snd] at h6); (try simp only [cmE] at h6)); ((try simp only [evE, liE, letsOf, letU, snd] at h7); (try simp only [cmE] at h7))
          replace h7 : votes ms C.w w = t.2 := by unfold votes; omega
          refine .callV (c_refOrder qo q co cq w t.1 (by omega) (by omega)) (fun g => ⟨ho.reads g, hr.reads g⟩) (.again rfl ⟨rfl, ?_⟩)
          show [U.b (cm .lss (ordW w t.1) 0)] = _
          simp [cm, h7]
        · ((try simp only [evE, liE, letsOf, letU, snd] at h6); (try simp only [cmE] at h6)); ((try simp only [evE, liE, letsOf, letU, snd] at h7); (try simp only [cmE] at h7))
          have h8 : ¬ (votes ms C.w w > t.2 ∨ (votes ms C.w w = t.2 ∧ ordW w t.1 < 0)) := by unfold votes; omega
          (simp only [evE, liE, letsOf, letU, snd, Sh.uss, Sh.us, atAddr, map_add0, List.append_nil]); simp [h8]
        · ((try simp only [evE, liE, letsOf, letU, snd] at h6); (try simp only [cmE] at h6))
          have h8 : votes ms C.w w > t.2 ∨ (votes ms C.w w = t.2 ∧ ordW w t.1 < 0) := by unfold votes; omega
          (simp only [evE, liE, letsOf, letU, snd, Sh.uss, Sh.us, atAddr, map_add0, List.append_nil]); simp [h8]
        rintro _ _ _ ⟨rfl, rfl⟩
        refine .env (by (try simp only [liE, letsOf, letU, snd, List.append_nil]); rfl) ?_
        refine .join (fun us mm => ∃ (q : Option Addr) (cq : Nat), us = [.p q, .i (stepE (votes ms C.w) t (some w)).1.length, .i cq, .i (stepE (votes ms C.w) t (some w)).2] ∧ RowW mm 31 q cq (stepE (votes ms C.w) t (some w)).1) (.ite (fun h6 => .again rfl ⟨qo, co, ?_, ?_⟩) (fun h6 => .again rfl ⟨q, cq, ?_, ?_⟩)) ?_
        · rw [hst, if_pos (of_decide_eq_true h6)]; exact (by (simp only [evE, liE, letsOf, letU, snd, Sh.uss, Sh.us, atAddr, map_add0, List.append_nil]) <;> rfl)
        · rw [hst, if_pos (of_decide_eq_true h6)]; exact ho
        · rw [hst, if_neg (of_decide_eq_false h6)]; exact (by (simp only [evE, liE, letsOf, letU, snd, Sh.uss, Sh.us, atAddr, map_add0, List.append_nil]) <;> rfl)
        · rw [hst, if_neg (of_decide_eq_false h6)]; exact hr
        rintro _ _ _ ⟨q3, c3, rfl, h3⟩
        exact .env (by (try simp only [liE, letsOf, letU, snd, List.append_nil]); rfl) (.again rfl ⟨q3, c3, (by (simp only [evE, liE, letsOf, letU, snd, Sh.uss, Sh.us, atAddr, map_add0, List.append_nil]) <;> rfl), h3⟩)
      rintro _ m3 _ ⟨q3, c3, rfl, h3⟩
      refine .env (by (try simp only [liE, letsOf, letU, snd, List.append_nil]); rfl) (.again rfl ⟨n1 - 1, by omega, k + 1, q3, c3, _, ?_, by omega, ht', h3, stepE_len htl⟩)
      (simp only [evE, liE, letsOf, letU, snd, Sh.uss, Sh.us, atAddr, map_add0, List.append_nil]); rw [add_i64 k (by omega)]
    · (simp only [evE, liE, letsOf, letU, snd, Sh.uss, Sh.us, atAddr, map_add0, List.append_nil]); rw [add_i64 j (by omega)]
    · rw [bestE_snoc hj, hs]
      rw [List.take_of_length_le (show (optsM C.w ms[j]).length ≤ k by show 2 ≤ k; omega)] at ht
      exact ht
  · rw [List.take_of_length_le (by omega)] at hs
    rw [hs]
    refine .ite (fun h3 => .ret rfl ?_) (fun h3 => .ret rfl ?_) <;> ((try simp only [evE, liE, letsOf, letU, snd] at h3); (try simp only [cmE] at h3))
    · rw [if_pos (by omega)]; exact ⟨none, 0, rfl, .of (Row.nil _ _ _)⟩
    · rw [if_neg (by omega)]; exact ⟨q, cq, rfl, hr⟩
end Go.Proofs.YtpbbnmjkbfbelaaDoor
