/- Words: equality, copies, what two have in common, their order. -/
import Derived.Test.YtpbbnmjkbfbelaaDoorJa
set_option linter.unusedSimpArgs false
set_option linter.unusedVariables false
namespace Go.Proofs.YtpbbnmjkbfbelaaDoor
open Go Go.Sy Go.RowKit
theorem el22 : El Tryd.prog 22 31 2 8 := El.of (by kernel_rfl)
theorem c_slEqual (p q : Option Addr) (ca cb : Nat) (a b : List Snd) (hla : a.length < 2 ^ 62) : RetP Tryd.prog n_slices_Equal___api_Sound_api_Sound_ [slv p a.length ca, slv q b.length cb] (fun R => WordAt R p a ∧ WordAt R q b) (.bool (decide (a = b))) := by
  refine Fn.of S_slices_Equal___api_Sound_api_Sound_ mx [.p p, .i a.length, .i ca, .p q, .i b.length, .i cb] rfl rfl fun c hp => .chk (by ((try simp only [evE, liE, letsOf, letU, snd]); (try simp only [cmE])); omega) (.chk (by ((try simp only [evE, liE, letsOf, letU, snd]); (try simp only [cmE])); omega) (.ite (fun h1 => .ret rfl ?_) (fun h1 => .chk (by ((try simp only [evE, liE, letsOf, letU, snd]); (try simp only [cmE])); omega) ?_))) <;> ((try simp only [evE, liE, letsOf, letU, snd] at h1); (try simp only [cmE] at h1))
  · have : ¬ a = b := fun e => by rw [e] at h1; simp at h1
    ((try simp only [evE, liE, letsOf, letU, snd]); (try simp only [cmE])); simp [this]
  have hl : a.length = b.length := by omega
  refine .loop (fun n us _ => ∃ (r : Bool) (j : Nat), us = [.b r, .i j] ∧ n + j = a.length ∧ a.take j = b.take j) a.length ⟨false, 0, rfl, rfl, rfl⟩ ?_
  rintro n _ m _ ⟨r, j, rfl, hn, ht⟩
  refine .ite (fun h2 => ?_) (fun h2 => .ret rfl ?_) <;> ((try simp only [evE, liE, letsOf, letU, snd] at h2); (try simp only [cmE] at h2))
  · have ha : j < a.length := by omega
    have hb : j < b.length := by omega
    have hiff := take_succ_eq ha hb ht
    refine .loadW a j ha (fun g => hp.1.mono g.R) (.loadW b j hb (fun g => hp.2.mono g.R) (.ite (fun h3 => .ret rfl ?_) (fun h3 => .again rfl ⟨n - 1, by omega, r, j + 1, ?_, by omega, hiff.2 ?_⟩))) <;> ((try simp only [evE, liE, letsOf, letU, snd] at h3); (try simp only [cmE] at h3))
    · have : ¬ a = b := fun e => by subst e; simp at h3
      ((try simp only [evE, liE, letsOf, letU, snd]); (try simp only [cmE])); simp [this]
    · (simp only [evE, liE, letsOf, letU, snd, Sh.uss, Sh.us, atAddr, map_add0, List.append_nil]); rw [add_i64 j (by omega)]
    · exact snd_eq.1 h3
  · have := take_all hl (by rw [show a.length = j by omega]; exact ht)
    ((try simp only [evE, liE, letsOf, letU, snd]); (try simp only [cmE])); simp [this]
theorem c_wordEqual (p q : Option Addr) (ca cb : Nat) (a b : List Snd) (hla : a.length < 2 ^ 62) : RetP Tryd.prog n_word_Equal [slv p a.length ca, slv q b.length cb] (fun R => WordAt R p a ∧ WordAt R q b) (.bool (decide (a = b))) :=
  Fn.of S_word_Equal mx [.p p, .i a.length, .i ca, .p q, .i b.length, .i cb] rfl rfl fun c hp => .callV (c_slEqual p q ca cb a b hla) (fun g => ⟨hp.1.mono g.R, hp.2.mono g.R⟩) (.ret rfl rfl)
theorem c_refEqual (p q : Option Addr) (ca cb : Nat) (a b : List Snd) (hla : a.length < 2 ^ 62) : RetP Tryd.prog n_ref02_Equal [slv p a.length ca, slv q b.length cb] (fun R => WordAt R p a ∧ WordAt R q b) (.bool (decide (a = b))) := by
  refine Fn.of S_ref02_Equal mx [.p p, .i a.length, .i ca, .p q, .i b.length, .i cb] rfl rfl fun c hp => .chk (by ((try simp only [evE, liE, letsOf, letU, snd]); (try simp only [cmE])); omega) (.chk (by ((try simp only [evE, liE, letsOf, letU, snd]); (try simp only [cmE])); omega) (.ite (fun h1 => .ret rfl ?_) (fun h1 => ?_))) <;> ((try simp only [evE, liE, letsOf, letU, snd] at h1); (try simp only [cmE] at h1))
  · have : ¬ a = b := fun e => by rw [e] at h1; simp at h1
    ((try simp only [evE, liE, letsOf, letU, snd]); (try simp only [cmE])); simp [this]
  have hl : a.length = b.length := by omega
  refine .loop (fun n us _ => ∃ (r : Bool) (j : Nat), us = [.b r, .i j] ∧ n + j = a.length ∧ a.take j = b.take j) a.length ⟨false, 0, rfl, rfl, rfl⟩ ?_
  rintro n _ m _ ⟨r, j, rfl, hn, ht⟩
  refine .chk (by ((try simp only [evE, liE, letsOf, letU, snd]); (try simp only [cmE])); omega) (.ite (fun h2 => ?_) (fun h2 => .ret rfl ?_)) <;> ((try simp only [evE, liE, letsOf, letU, snd] at h2); (try simp only [cmE] at h2))
  · have ha : j < a.length := by omega
    have hb : j < b.length := by omega
    have hiff := take_succ_eq ha hb ht
    refine .loadW a j ha (fun g => hp.1.mono g.R) (.loadW b j hb (fun g => hp.2.mono g.R) (.ite (fun h3 => .ret rfl ?_) (fun h3 => .again rfl ⟨n - 1, by omega, r, j + 1, ?_, by omega, hiff.2 ?_⟩))) <;> ((try simp only [evE, liE, letsOf, letU, snd] at h3); (try simp only [cmE] at h3))
    · have : ¬ a = b := fun e => by subst e; simp at h3
      ((try simp only [evE, liE, letsOf, letU, snd]); (try simp only [cmE])); simp [this]
    · (simp only [evE, liE, letsOf, letU, snd, Sh.uss, Sh.us, atAddr, map_add0, List.append_nil]); rw [add_i64 j (by omega)]
    · exact snd_eq.1 h3
  · have := take_all hl (by rw [show a.length = j by omega]; exact ht)
    ((try simp only [evE, liE, letsOf, letU, snd]); (try simp only [cmE])); simp [this]
theorem c_refCopy (p : Option Addr) (ca : Nat) (a : List Snd) (hla : a.length < 2 ^ 40) : FnM Tryd.prog n_ref02_Copy [slv p a.length ca] (fun R => WordAt R p a) fun v mq _ => ∃ q cq, v = slv q a.length cq ∧ Row mq 31 2 q cq a.length (wcells a) := by
  refine FnM.of S_ref02_Copy mx [.p p, .i a.length, .i ca] rfl rfl fun c hp => ?_
  refine .loop (fun n us m => ∃ (j : Nat) (q : Option Addr) (cq : Nat), us = [.p q, .i j, .i cq, .i j] ∧ n + j = a.length ∧ Row m 31 2 q cq j (wcells (a.take j))) a.length ⟨0, none, 0, rfl, rfl, Row.nil _ _ _⟩ ?_
  rintro n _ m _ ⟨j, q, cq, rfl, hn, hrow⟩
  refine .chk (by ((try simp only [evE, liE, letsOf, letU, snd]); (try simp only [cmE])); omega) (.ite (fun h1 => ?_) (fun h1 => .ret rfl ⟨q, cq, ?_⟩)) <;> ((try simp only [evE, liE, letsOf, letU, snd] at h1); (try simp only [cmE] at h1))
  · have hj : j < a.length := by omega
    refine .loadW a j hj (fun g => hp.mono g.R) (.env (by (try simp only [liE, letsOf, letU, snd, List.append_nil]); rfl) (.alloc fun b0 => .append (q := q) (cap := cq) (n := j) (qx := some ⟨b0, 0, none⟩) (kx := 1) (capx := 1) (news := wcells [a[j]]) el22 hrow (fun g => g.cells (j := 0) rfl rfl rfl) (by simp [wcells, scell]) (wcells_one _) (fun h => by cases h) (by simp [maxLen]; omega) (by omega) (fun q' cq' m' hr' _ _ => .again rfl ⟨n - 1, by omega, j + 1, q', cq', ?_, by omega, ?_⟩)))
    · (simp only [evE, liE, letsOf, letU, snd, Sh.uss, Sh.us, atAddr, map_add0, List.append_nil]); rw [add_i64 j (by omega)]
    · rw [List.take_succ_eq_append_getElem hj, wcells_append]; exact hr'
  · rw [show j = a.length by omega, List.take_of_length_le (Nat.le_refl _)] at hrow
    exact ⟨by rw [show j = a.length by omega]; rfl, hrow⟩
theorem c_common (p q : Option Addr) (ca cb : Nat) (a b : List Snd) (hla : a.length < 2 ^ 40) (hlb : b.length < 2 ^ 40) : FnM Tryd.prog n_word_Common [slv p a.length ca, slv q b.length cb] (fun R => WordAt R p a ∧ WordAt R q b) fun v _ _ => ∃ k : Nat, v = .tuple #[.int .i64 (cpl a b : Nat), .int .i64 (k : Nat)] := by
  refine FnM.of S_word_Common mx [.p p, .i a.length, .i ca, .p q, .i b.length, .i cb] rfl rfl fun c hp => .chk (by ((try simp only [evE, liE, letsOf, letU, snd]); (try simp only [cmE])); omega) (.chk (by ((try simp only [evE, liE, letsOf, letU, snd]); (try simp only [cmE])); omega) ?_)
  have hmn : ∀ x : Int, (if ((b.length : Int)) < (a.length : Int) then (b.length : Int) else (a.length : Int)) = (min a.length b.length : Nat) := fun _ => by split <;> omega
  refine .loop (fun n us _ => ∃ j : Nat, us = [.i j] ∧ n + j = min a.length b.length ∧ cpl a b = j + cpl (a.drop j) (b.drop j)) (min a.length b.length) ⟨0, rfl, rfl, by simp⟩ ?_
  rintro n _ m _ ⟨j, rfl, hn, hc⟩
  refine .join (fun us mm => m = mm ∧ ∃ x : Bool, us = [.b x] ∧ (x = true ↔ ∃ (ha : j < a.length) (hb : j < b.length), a[j] = b[j])) (.ite (fun h1 => ?_) (fun h1 => .again rfl ⟨rfl, false, rfl, ?_⟩)) ?_
  · replace h1 : cm .lss (j : Int) (if ((b.length : Int)) < (a.length : Int) then (b.length : Int) else (a.length : Int)) = true := h1
    rw [hmn 0] at h1
    simp only [cm, decide_eq_true_eq] at h1
    have ha : j < a.length := by omega
    have hb : j < b.length := by omega
    refine .loadW a j ha (fun g => hp.1.mono g.R) (.loadW b j hb (fun g => hp.2.mono g.R) (.again rfl ⟨rfl, (bif cm .eql (a[j].1 : Int) (b[j].1 : Int) then cm .eql (a[j].2 : Int) (b[j].2 : Int) else false), rfl, ?_⟩))
    rw [pick_and]
    simp only [cm, Bool.and_eq_true, beq_iff_eq, ha, hb, exists_true_left]
    exact snd_eq
  · replace h1 : cm .lss (j : Int) (if ((b.length : Int)) < (a.length : Int) then (b.length : Int) else (a.length : Int)) = false := h1
    rw [hmn 0] at h1
    simp only [cm, decide_eq_false_iff_not] at h1
    simp only [Bool.false_eq_true, false_iff]
    rintro ⟨ha, hb, _⟩; omega
  rintro _ _ _ ⟨rfl, x, rfl, hx⟩
  refine .env (by (try simp only [liE, letsOf, letU, snd, List.append_nil]); rfl) (.ite (fun h1 => .again rfl ⟨n - 1, ?_, j + 1, ?_, ?_, ?_⟩) (fun h1 => ?_))
  · obtain ⟨ha, hb, _⟩ := hx.1 h1; omega
  · obtain ⟨ha, hb, _⟩ := hx.1 h1
    (simp only [evE, liE, letsOf, letU, snd, Sh.uss, Sh.us, atAddr, map_add0, List.append_nil]); rw [add_i64 j (by omega)]
  · obtain ⟨ha, hb, _⟩ := hx.1 h1; omega
  · obtain ⟨ha, hb, e⟩ := hx.1 h1
    rw [hc, cpl_drop ha hb, if_pos e]; omega
  · replace h1 : x = false := h1
    subst h1
    have hc' : cpl a b = j := by
      rw [hc]
      rcases Nat.lt_or_ge j a.length with ha | ha
      · rcases Nat.lt_or_ge j b.length with hb | hb
        · rw [cpl_drop ha hb, if_neg fun e => by cases hx.2 ⟨ha, hb, e⟩]; omega
        · rw [cpl_end (.inr hb)]; omega
      · rw [cpl_end (.inl ha)]; omega
    rw [hc']
    refine .loop (fun n us _ => ∃ k : Nat, us = [.i k] ∧ n + (j + k) = min a.length b.length) (min a.length b.length - j) ⟨0, rfl, by omega⟩ ?_
    rintro n2 _ m2 _ ⟨k, rfl, hn2⟩
    have ejk : ar .add .i64 (j : Int) (k : Int) = ((j + k : Nat) : Int) := by rw [addI (by omega) (by omega)]; omega
    have sub : ∀ l : List Snd, l.length < 2 ^ 40 → j + k < l.length → ar .sub .i64 (ar .sub .i64 (l.length : Int) 1) (k : Int) = ((l.length - 1 - k : Nat) : Int) := fun l h1 h2 => by
      rw [show ar .sub .i64 (l.length : Int) 1 = (l.length : Int) - 1 from subI (by omega) (by omega), subI (by omega) (by omega)]; omega
    refine .env (by (try simp only [liE, letsOf, letU, snd, List.append_nil]); rfl) (.join (fun us mm => m2 = mm ∧ ∃ x : Bool, us = [.b x] ∧ (x = true → j + k < min a.length b.length)) (.ite (fun h2 => ?_) (fun h2 => .again rfl ⟨rfl, false, rfl, fun h => by cases h⟩)) ?_)
    · replace h2 : cm .lss (ar .add .i64 (j : Int) (k : Int)) (if ((b.length : Int)) < (a.length : Int) then (b.length : Int) else (a.length : Int)) = true := h2
      rw [hmn 0, ejk] at h2
      simp only [cm, decide_eq_true_eq] at h2
      refine .chk (by ((try simp only [evE, liE, letsOf, letU, snd]); (try simp only [cmE])); omega) (.loadW a (a.length - 1 - k) (by omega) (fun g => hp.1.mono g.R) (.env (by (try simp only [liE, letsOf, letU, snd, List.append_nil]); rfl) (.chk (by ((try simp only [evE, liE, letsOf, letU, snd]); (try simp only [cmE])); omega) (.loadW b (b.length - 1 - k) (by omega) (fun g => hp.2.mono g.R) (.again rfl ⟨rfl, _, rfl, fun _ => by omega⟩) (by show ar .sub .i64 (ar .sub .i64 (b.length : Int) 1) (k : Int) = _; exact sub b hlb (by omega)) rfl))) (by show ar .sub .i64 (ar .sub .i64 (a.length : Int) 1) (k : Int) = _; exact sub a hla (by omega)) rfl)
    rintro _ _ _ ⟨rfl, x, rfl, hx⟩
    refine .env (by (try simp only [liE, letsOf, letU, snd, List.append_nil]); rfl) (.ite (fun h1 => .again rfl ⟨n2 - 1, ?_, k + 1, ?_, ?_⟩) (fun h1 => .ret rfl ⟨k, rfl⟩))
    · have := hx h1; omega
    · have := hx h1
      (simp only [evE, liE, letsOf, letU, snd, Sh.uss, Sh.us, atAddr, map_add0, List.append_nil]); rw [add_i64 k (by omega)]
    · have := hx h1; omega
theorem c_isNaN (x : Int) : Ret Tryd.prog n_cmp_isNaN_uint32_ [.int .u32 x] (.bool false) := Fn.of S_cmp_isNaN_uint32_ mx [.i x] rfl rfl fun c _ => .ret rfl (by show Value.bool (x != x) = _; simp)
theorem c_cmp32 (x y : Nat) : Ret Tryd.prog n_cmp_Compare_uint32_ [.int .u32 x, .int .u32 y] (.int .i64 (if x < y then -1 else if y < x then 1 else 0)) := by
  refine Fn.of S_cmp_Compare_uint32_ mx [.i x, .i y] rfl rfl fun c _ => .callV (c_isNaN _) (fun _ => trivial) (.callV (c_isNaN _) (fun _ => trivial) (.no rfl (.no rfl (.ite (fun h => .ret rfl ?_) (fun h => .ite (fun h4 => .ret rfl ?_) (fun h4 => .ret rfl ?_)))))) <;> ((try simp only [evE, liE, letsOf, letU, snd] at h); (try simp only [cmE] at h))
  · rw [if_pos (by omega)]; rfl
  · ((try simp only [evE, liE, letsOf, letU, snd] at h4); (try simp only [cmE] at h4)); rw [if_neg (by omega), if_pos (by omega)]; rfl
  · ((try simp only [evE, liE, letsOf, letU, snd] at h4); (try simp only [cmE] at h4)); rw [if_neg (by omega), if_neg (by omega)]; rfl
theorem c_or2 (p : Option Addr) (cap : Nat) (x y : Int) : RetP Tryd.prog n_cmp_Or_int_ [slv p 2 cap] (fun R => Cells R p [.int .i64 x, .int .i64 y]) (.int .i64 (if x ≠ 0 then x else y)) := by
  refine Fn.of S_cmp_Or_int_ mx [.p p, .i 2, .i cap] rfl rfl fun c hp => .chk rfl ?_
  refine .loop (fun n us _ => ∃ (e : Int) (j : Nat), us = [.i e, .i j] ∧ n + j = 2 ∧ (j ≠ 0 → x = 0) ∧ (j = 2 → y = 0)) 2 ⟨0, 0, rfl, rfl, fun h => absurd rfl h, fun h => by omega⟩ ?_
  rintro n _ m _ ⟨e, j, rfl, hn, h0, h1⟩
  refine .ite (fun h2 => ?_) (fun h2 => .ret rfl ?_) <;> ((try simp only [evE, liE, letsOf, letU, snd] at h2); (try simp only [cmE] at h2))
  · obtain rfl | rfl : j = 0 ∨ j = 1 := by omega
    · refine .elem1 (.int .i64 x) [.int .i64 x, .int .i64 y] 0 2 rfl rfl (by omega) (fun g => hp.mono g.R) rfl (.ite (fun h3 => .ret rfl ?_) (fun h3 => .again rfl ⟨1, by omega, e, 1, by (simp only [evE, liE, letsOf, letU, snd, Sh.uss, Sh.us, atAddr, map_add0, List.append_nil]); rfl, rfl, fun _ => ?_, fun h => by omega⟩)) <;> ((try simp only [evE, liE, letsOf, letU, snd] at h3); (try simp only [cmE] at h3))
      · rw [if_pos h3]; rfl
      · exact h3
    · have hx := h0 (by omega)
      refine .elem1 (.int .i64 y) [.int .i64 x, .int .i64 y] 1 2 rfl rfl (by omega) (fun g => hp.mono g.R) rfl (.ite (fun h3 => .ret rfl ?_) (fun h3 => .again rfl ⟨0, by omega, e, 2, by (simp only [evE, liE, letsOf, letU, snd, Sh.uss, Sh.us, atAddr, map_add0, List.append_nil]); rfl, rfl, fun _ => hx, fun _ => ?_⟩)) <;> ((try simp only [evE, liE, letsOf, letU, snd] at h3); (try simp only [cmE] at h3))
      · rw [if_neg (by simp [hx])]; rfl
      · exact h3
  · rw [if_neg (by simp [h0 (by omega)]), h1 (by omega)]; rfl
theorem c_wordorder (s t : Snd) : Ret Tryd.prog n_word_order [snd s, snd t] (.int .i64 (ordS s t)) := by
  refine Fn.of S_word_order mx [.i s.1, .i s.2, .i t.1, .i t.2] rfl rfl fun c _ => .alloc fun b0 => .alloc fun b1 => .callV (c_cmp32 s.1 t.1) (fun _ => trivial) (.callV (c_cmp32 s.2 t.2) (fun _ => trivial) (.alloc fun b2 => .env (by (try simp only [liE, letsOf, letU, snd, List.append_nil]); rfl) (.callV (c_or2 (some ⟨b2, 0, none⟩) 2 (if s.1 < t.1 then -1 else if t.1 < s.1 then 1 else 0) (if s.2 < t.2 then -1 else if t.2 < s.2 then 1 else 0)) (fun g => g.cells (j := 2) rfl rfl rfl) (.ret rfl ?_))))
  have e : ordS s t = if (if s.1 < t.1 then (-1 : Int) else if t.1 < s.1 then 1 else 0) ≠ 0 then (if s.1 < t.1 then -1 else if t.1 < s.1 then 1 else 0) else (if s.2 < t.2 then -1 else if t.2 < s.2 then 1 else 0) := by
    unfold ordS
    split
    · simp
    · split
      · simp
      · simp
  rw [e]; rfl
theorem ordS_range (s t : Snd) : ordS s t = -1 ∨ ordS s t = 0 ∨ ordS s t = 1 := by unfold ordS; split <;> (try split) <;> (try split) <;> (try split) <;> simp
theorem c_compareFunc (p q : Option Addr) (ca cb : Nat) (a b : List Snd) (hla : a.length < 2 ^ 40) (hlb : b.length < 2 ^ 40) : RetP Tryd.prog n_slices_CompareFunc___api_Sound___api_Sound_api_Sound_api_Sound_ [slv p a.length ca, slv q b.length cb, .func (.func n_word_order) #[] #[]] (fun R => WordAt R p a ∧ WordAt R q b) (.int .i64 (ordW a b)) := by
  refine Fn.of S_slices_CompareFunc___api_Sound___api_Sound_api_Sound_api_Sound_ mx [.p p, .i a.length, .i ca, .p q, .i b.length, .i cb, .v (.func (.func n_word_order) #[] #[])] rfl rfl fun c hp => .chk (by ((try simp only [evE, liE, letsOf, letU, snd]); (try simp only [cmE])); omega) ?_
  refine .loop (fun n us _ => ∃ (e : Int) (j : Nat), us = [.i e, .i j] ∧ n + j = a.length ∧ j ≤ b.length ∧ ordW a b = ordW (a.drop j) (b.drop j)) a.length ⟨0, 0, rfl, rfl, Nat.zero_le _, rfl⟩ ?_
  rintro n _ m _ ⟨e, j, rfl, hn, hjb, ho⟩
  refine .ite (fun h1 => ?_) (fun h1 => .chk (by ((try simp only [evE, liE, letsOf, letU, snd]); (try simp only [cmE])); omega) (.chk (by ((try simp only [evE, liE, letsOf, letU, snd]); (try simp only [cmE])); omega) (.ite (fun h2 => .ret rfl ?_) (fun h2 => .ret rfl ?_)))) <;> ((try simp only [evE, liE, letsOf, letU, snd] at h1); (try simp only [cmE] at h1))
  · have ha : j < a.length := by omega
    refine .loadW a j ha (fun g => hp.1.mono g.R) (.alloc fun _ => .chk (by ((try simp only [evE, liE, letsOf, letU, snd]); (try simp only [cmE])); omega) (.ite (fun h2 => .ret rfl ?_) (fun h2 => ?_))) <;> ((try simp only [evE, liE, letsOf, letU, snd] at h2); (try simp only [cmE] at h2))
    · rw [ho, ordW_end (.inr (by omega)) (by omega) hjb, if_neg (by omega), if_pos (by omega)]; rfl
    · have hb : j < b.length := by omega
      rw [ordW_drop ha hb] at ho
      refine .env (by (try simp only [liE, letsOf, letU, snd, List.append_nil]); rfl) (.loadW b j hb (fun g => hp.2.mono g.R) (.env (by (try simp only [liE, letsOf, letU, snd, List.append_nil]); rfl) (.alloc fun _ => .callvR (r := .int .i64 (ordS a[j] b[j])) (FnV.of0 (by kernel_rfl) (c_wordorder a[j] b[j])) (fun _ => trivial) (fun m' hm' => .env (by (try simp only [liE, letsOf, letU, snd, List.append_nil]); rfl) (.ite (fun h3 => .ret rfl ?_) (fun h3 => .again rfl ⟨n - 1, by omega, e, j + 1, ?_, by omega, by omega, ?_⟩))))))
      · ((try simp only [evE, liE, letsOf, letU, snd] at h3); (try simp only [cmE] at h3)); rw [ho, if_pos h3]; rfl
      · (simp only [evE, liE, letsOf, letU, snd, Sh.uss, Sh.us, atAddr, map_add0, List.append_nil]); rw [add_i64 j (by omega)]
      · ((try simp only [evE, liE, letsOf, letU, snd] at h3); (try simp only [cmE] at h3)); rw [ho, if_neg (by simp [h3])]
  · ((try simp only [evE, liE, letsOf, letU, snd] at h2); (try simp only [cmE] at h2)); rw [ho, ordW_end (.inl (by omega)) (by omega) hjb, if_pos (by omega)]; rfl
  · ((try simp only [evE, liE, letsOf, letU, snd] at h2); (try simp only [cmE] at h2)); rw [ho, ordW_end (.inl (by omega)) (by omega) hjb, if_neg (by omega), if_neg (by omega)]; rfl
theorem c_wordOrder (p q : Option Addr) (ca cb : Nat) (a b : List Snd) (hla : a.length < 2 ^ 40) (hlb : b.length < 2 ^ 40) : RetP Tryd.prog n_word_Order [slv p a.length ca, slv q b.length cb] (fun R => WordAt R p a ∧ WordAt R q b) (.int .i64 (ordW a b)) :=
  Fn.of S_word_Order mx [.p p, .i a.length, .i ca, .p q, .i b.length, .i cb] rfl rfl fun c hp => .callV (c_compareFunc p q ca cb a b hla hlb) (fun g => ⟨hp.1.mono g.R, hp.2.mono g.R⟩) (.ret rfl rfl)
end Go.Proofs.YtpbbnmjkbfbelaaDoor
