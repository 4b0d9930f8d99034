/- Chapter 30: checks of models and words; Grow, Concat; the two kinds of changes. -/
import Derived.Test.YtpbbnmjkbfbelaaDoorJb
import Derived.Test.YtpbbnmjkbfbelaaDoorTb
import Derived.Test.YtpbbnmjkbfbelaaDoorTd
set_option linter.unusedSimpArgs false
set_option linter.unusedVariables false
namespace Go.Sy
open Go Go.RowKit
/-- A model. -/
structure MD where
  a : WD
  b : WD
def mcells (l : List MD) : List Value := l.flatMap fun m => [m.a.v, m.b.v]
def ModelsAt (R : Mv) (q : Option Addr) (l : List MD) : Prop := Cells R q (mcells l) ∧ ∀ x ∈ l, WordAt R x.a.p x.a.w ∧ WordAt R x.b.p x.b.w
theorem ModelsAt.mono {R S : Mv} {q : Option Addr} {l : List MD} (h : ModelsAt R q l) (hle : R.le S) : ModelsAt S q l := ⟨h.1.mono hle, fun x hx => ⟨(h.2 x hx).1.mono hle, (h.2 x hx).2.mono hle⟩⟩
def ModelsOk (l : List MD) : Prop := ∀ x ∈ l, Wok x.a.w ∧ Wok x.b.w ∧ x.a.ok ∧ x.b.ok
theorem mcells_len (l : List MD) : (mcells l).length = l.length * 2 := by
  induction l with
  | nil => rfl
  | cons s w ih => simp only [mcells, List.flatMap_cons, List.length_append, List.length_cons] at *; rw [ih]; simp; omega
theorem mcells_at (w : List MD) (j : Nat) (h : j < w.length) : (mcells w)[j * 2]? = some w[j].a.v ∧ (mcells w)[j * 2 + 1]? = some w[j].b.v := by
  induction w generalizing j with
  | nil => simp at h
  | cons s w ih =>
    cases j with
    | zero => exact ⟨rfl, rfl⟩
    | succ j =>
      have := ih j (by simpa using h)
      simp only [mcells, List.flatMap_cons, List.cons_append, List.nil_append] at *
      rw [show (j + 1) * 2 = j * 2 + 2 by omega, show j * 2 + 2 + 1 = (j * 2 + 1) + 2 by omega]
      simpa using this
section
variable {P : Program} {c : Cx} {L : List Nat} {ρ : Env} {blks : List Blk} {m : Mem} {R : Value → HW → Prop} {Dn : Nat → List U → HW → Prop} {A : List (List U → HW → Prop)}
theorem sl_at (ρ : Env) (L : List Nat) (q : Option Addr) (n cap : Nat) (us : List U) : (Sh.sl.fresh ρ.length).1.den L (ρ ++ (.p q :: .i n :: .i cap :: us)) = slv q n cap := by
  have e0 := getElem_env ρ (.p q :: .i n :: .i cap :: us) 0
  have e1 := getElem_env ρ (.p q :: .i n :: .i cap :: us) 1
  have e2 := getElem_env ρ (.p q :: .i n :: .i cap :: us) 2
  rw [Nat.add_zero] at e0
  simp only [Sh.fresh, SV.den, IT.eval, atAddr, Env.ptr, Env.int]
  rw [e0, e1, e2]
  simp only [List.getElem?_cons_zero, List.getElem?_cons_succ, slv]
  cases q <;> simp [addr_zero]
theorem DenM.loadMD {i : Nat} {I len : IT} {k : Tree} (l : List MD) (j : Nat) (hj : j < l.length) (hw : Good c L m → Cells (vw c L ρ blks m) (ρ.ptr i) (mcells l)) (hk : DenM P R Dn k L (ρ ++ [.p l[j].a.p, .i l[j].a.w.length, .i l[j].a.cap, .p l[j].b.p, .i l[j].b.w.length, .i l[j].b.cap]) c m A) (hI : I.eval ρ = (j : Int) := by rfl) (hn : len.eval ρ = (l.length : Int) := by rfl) :
    DenM P R Dn (.chk (.pick (.cmp .geq I (.lit 0)) (.pick (.cmp .lss I len) (.some i) (.lit false)) (.lit false)) (.load i (.off I 2 (.lit 0)) [.sl, .sl] blks k)) L ρ c m A := by
  have h := mcells_at l j hj
  refine .elem [.p l[j].a.p, .i l[j].a.w.length, .i l[j].a.cap, .p l[j].b.p, .i l[j].b.w.length, .i l[j].b.cap] (mcells l) j l.length hI hn hj rfl hw (by rw [mcells_len]; omega) (fun q v hv => ?_) hk
  have d0 : (SV.dens L (ρ ++ [.p l[j].a.p, .i l[j].a.w.length, .i l[j].a.cap, .p l[j].b.p, .i l[j].b.w.length, .i l[j].b.cap]) (Sh.freshs [.sl, .sl] ρ.length).1) = [l[j].a.v, l[j].b.v] := by
    have e1 := sl_at ρ L l[j].a.p l[j].a.w.length l[j].a.cap [.p l[j].b.p, .i l[j].b.w.length, .i l[j].b.cap]
    have e2 := sl_at (ρ ++ [.p l[j].a.p, .i l[j].a.w.length, .i l[j].a.cap]) L l[j].b.p l[j].b.w.length l[j].b.cap []
    rw [List.append_assoc] at e2
    simp only [List.cons_append, List.nil_append, List.length_append, List.length_cons, List.length_nil] at e2
    simp only [Sh.freshs, Sh.fresh, SV.dens] at e1 e2 ⊢
    rw [e1, e2]; rfl
  rw [d0] at hv
  match q, hv with
  | 0, hv => simp at hv; rw [← hv]; exact h.1
  | 1, hv => simp at hv; rw [← hv]; exact h.2
  | q + 2, hv => simp at hv
/-- The empty code at a place that is never reached. -/
theorem DenM.never {t : Tree} (h : Good c L m → False) : DenM P R Dn t L ρ c m A := fun g => (h g).elim
end
theorem checkL_append (a b : List (List Snd)) : checkL (a ++ b) = if checkL a ≠ 0 then checkL a else checkL b := by
  induction a with
  | nil => simp [checkL]
  | cons w a ih =>
    by_cases h : checkW w = 0
    · have e1 : checkL (w :: (a ++ b)) = checkL (a ++ b) := by rw [checkL, if_neg (by simp [h])]
      have e2 : checkL (w :: a) = checkL a := by rw [checkL, if_neg (by simp [h])]
      simp only [List.cons_append, e1, e2, ih]
    · have e1 : checkL (w :: (a ++ b)) = checkW w := by rw [checkL, if_pos h]
      have e2 : checkL (w :: a) = checkW w := by rw [checkL, if_pos h]
      simp only [List.cons_append, e1, e2]
      rw [if_pos h]
def mwords (l : List MD) : List (List Snd) := l.flatMap fun m => [m.a.w, m.b.w]
/-- The first error of models and words. -/
def chkM (ms : List MD) (l : List (List Snd)) : Int := if ms.length > 256 then 12 else checkL (mwords ms ++ l)
theorem checkL_take {l : List (List Snd)} {j : Nat} (hj : j ≤ l.length) (h : checkL (l.take j) = 0) : checkL l = checkL (l.drop j) := by
  conv => lhs; rw [← List.take_append_drop j l, checkL_append, if_neg (by simp [h])]
theorem checkL_snoc {l : List (List Snd)} {j : Nat} (hj : j < l.length) (h : checkL (l.take j) = 0) (hw : checkW l[j] = 0) : checkL (l.take (j + 1)) = 0 := by
  rw [List.take_succ_eq_append_getElem hj, checkL_append, if_neg (by simp [h])]
  simp [checkL, hw]
theorem mwords_take (ms : List MD) (j : Nat) : (mwords ms).take (2 * j) = mwords (ms.take j) := by
  induction ms generalizing j with
  | nil => simp [mwords]
  | cons s w ih =>
    cases j with
    | zero => rfl
    | succ j =>
      simp only [List.take_succ_cons, mwords, List.flatMap_cons] at ih ⊢
      rw [← ih, show 2 * (j + 1) = 2 * j + 1 + 1 by omega]
      rfl
theorem mwords_snoc {ms : List MD} {j : Nat} (hj : j < ms.length) : mwords (ms.take (j + 1)) = mwords (ms.take j) ++ [ms[j].a.w, ms[j].b.w] := by
  unfold mwords
  rw [List.take_succ_eq_append_getElem hj, List.flatMap_append]; simp
theorem mwords_split {ms : List MD} {j : Nat} (hj : j < ms.length) : mwords ms = mwords (ms.take j) ++ ([ms[j].a.w, ms[j].b.w] ++ mwords (ms.drop (j + 1))) := by
  unfold mwords
  conv => lhs; rw [← List.take_append_drop j ms, List.drop_eq_getElem_cons hj]
  rw [List.flatMap_append, List.flatMap_cons]
theorem chk_model {ms : List MD} {j : Nat} {l : List (List Snd)} (hj : j < ms.length) (hc : checkL (mwords (ms.take j)) = 0) (h3 : checkL [ms[j].a.w, ms[j].b.w] ≠ 0) : checkL (mwords ms ++ l) = checkL [ms[j].a.w, ms[j].b.w] := by
  rw [mwords_split hj, List.append_assoc, checkL_append, if_neg (by simp [hc]), List.append_assoc, checkL_append, if_pos h3]
end Go.Sy
namespace Go.Proofs.YtpbbnmjkbfbelaaDoor
open Go Go.Sy Go.RowKit
theorem c_check0 (q : Option Addr) (cq : Nat) (l : List WD) (h : ∀ x ∈ l, Wok x.w) (hl : l.length < 2 ^ 62) : RetP Tryd.prog n_analogy_check [slv none 0 0, slv q l.length cq] (fun R => WordsAt R q l) (.int .i64 (checkL (l.map (·.w)))) := by
  refine Fn.of S_analogy_check mx [.p none, .i 0, .i 0, .p q, .i l.length, .i cq] rfl rfl fun c hp => .chk rfl (.no rfl (.chk rfl ?_))
  refine .loop (fun n us mm => us = [.i 0, .i 0]) 0 rfl ?_
  rintro n _ m _ rfl
  refine .no rfl (.chk (by ((try simp only [evE, liE, letsOf, letU, snd]); (try simp only [cmE])); omega) ?_)
  refine .loop (fun n us _ => ∃ (e : Int) (j : Nat), us = [.i e, .i j] ∧ n + j = l.length ∧ checkL ((l.map (·.w)).take j) = 0) l.length ⟨0, 0, rfl, rfl, rfl⟩ ?_
  rintro n _ m _ ⟨e, j, rfl, hn, hc⟩
  refine .env (by (try simp only [liE, letsOf, letU, snd, List.append_nil]); rfl) (.ite (fun h1 => ?_) (fun h1 => .ret rfl ?_)) <;> ((try simp only [evE, liE, letsOf, letU, snd] at h1); (try simp only [cmE] at h1))
  · have hj : j < l.length := by omega
    refine .loadWD l j hj (fun g => hp.1.mono g.R) (.env (by (try simp only [liE, letsOf, letU, snd, List.append_nil]); rfl) (.callV (c_wordCheck l[j].p l[j].cap l[j].w (h _ (List.getElem_mem hj))) (fun g => (hp.2 _ (List.getElem_mem hj)).mono g.R) (.env (by (try simp only [liE, letsOf, letU, snd, List.append_nil]); rfl) (.ite (fun h2 => .ret rfl ?_) (fun h2 => .again rfl ⟨n - 1, by omega, e, j + 1, ?_, by omega, ?_⟩))))) <;> ((try simp only [evE, liE, letsOf, letU, snd] at h2); (try simp only [cmE] at h2))
    · rw [checkL_take (j := j) (by simp; omega) hc, List.drop_eq_getElem_cons (by simpa using hj), checkL, if_pos (by simpa using h2)]; simp; rfl
    · (simp only [evE, liE, letsOf, letU, snd, Sh.uss, Sh.us, atAddr, map_add0, List.append_nil]); rw [add_i64 j (by omega)]
    · exact checkL_snoc (by simpa using hj) hc (by simpa using h2)
  · rw [List.take_of_length_le (by simp; omega)] at hc
    rw [hc]; rfl
theorem c_check (p : Option Addr) (cp : Nat) (ms : List MD) (q : Option Addr) (cq : Nat) (l : List WD) (hm : ModelsOk ms) (h : ∀ x ∈ l, Wok x.w) (hl : l.length < 2 ^ 62) : RetP Tryd.prog n_analogy_check [slv p ms.length cp, slv q l.length cq] (fun R => ModelsAt R p ms ∧ WordsAt R q l) (.int .i64 (chkM ms (l.map (·.w)))) := by
  refine Fn.of S_analogy_check mx [.p p, .i ms.length, .i cp, .p q, .i l.length, .i cq] rfl rfl fun c hp => .chk (by ((try simp only [evE, liE, letsOf, letU, snd]); (try simp only [cmE])); omega) (.ite (fun h1 => .ret rfl ?_) (fun h1 => .chk (by ((try simp only [evE, liE, letsOf, letU, snd]); (try simp only [cmE])); omega) ?_)) <;> ((try simp only [evE, liE, letsOf, letU, snd] at h1); (try simp only [cmE] at h1))
  · have : chkM ms (l.map (·.w)) = 12 := by unfold chkM; rw [if_pos (by omega)]
    rw [this]; rfl
  have hs : chkM ms (l.map (·.w)) = checkL (mwords ms ++ l.map (·.w)) := by unfold chkM; rw [if_neg (by omega)]
  rw [hs]
  refine .loop (fun n us _ => ∃ (e : Int) (j : Nat), us = [.i e, .i j] ∧ n + j = ms.length ∧ checkL (mwords (ms.take j)) = 0) ms.length ⟨0, 0, rfl, rfl, rfl⟩ ?_
  rintro n _ m _ ⟨e, j, rfl, hn, hc⟩
  refine .env (by (try simp only [liE, letsOf, letU, snd, List.append_nil]); rfl) (.ite (fun h2 => ?_) (fun h2 => .chk (by ((try simp only [evE, liE, letsOf, letU, snd]); (try simp only [cmE])); omega) ?_)) <;> ((try simp only [evE, liE, letsOf, letU, snd] at h2); (try simp only [cmE] at h2))
  · have hj : j < ms.length := by omega
    have hok := hm _ (List.getElem_mem hj)
    have hat := hp.1.2 _ (List.getElem_mem hj)
    refine .loadMD ms j hj (fun g => hp.1.1.mono g.R) (.env (by (try simp only [liE, letsOf, letU, snd, List.append_nil]); rfl) (.alloc fun b0 => .alloc fun b1 => .callV (c_check0 (some ⟨b1, 0, none⟩) 2 [ms[j].a, ms[j].b] (by simp [hok.1, hok.2.1]) (by simp)) (fun g => ⟨g.cells (j := 1) rfl rfl rfl, ?_⟩) (.env (by (try simp only [liE, letsOf, letU, snd, List.append_nil]); rfl) (.ite (fun h3 => .ret rfl ?_) (fun h3 => .again rfl ⟨n - 1, by omega, e, j + 1, ?_, by omega, ?_⟩)))))
    · simp only [List.mem_cons, List.not_mem_nil, or_false]
      rintro x (rfl | rfl)
      · exact hat.1.mono g.R
      · exact hat.2.mono g.R
    · ((try simp only [evE, liE, letsOf, letU, snd] at h3); (try simp only [cmE] at h3))
      replace h3 : checkL [ms[j].a.w, ms[j].b.w] ≠ 0 := h3
      rw [chk_model hj hc h3]; rfl
    · (simp only [evE, liE, letsOf, letU, snd, Sh.uss, Sh.us, atAddr, map_add0, List.append_nil]); rw [add_i64 j (by omega)]
    · ((try simp only [evE, liE, letsOf, letU, snd] at h3); (try simp only [cmE] at h3))
      replace h3 : checkL [ms[j].a.w, ms[j].b.w] = 0 := h3
      rw [mwords_snoc hj, checkL_append, if_neg (by simp [hc])]; exact h3
  · rw [List.take_of_length_le (by omega)] at hc
    refine .loop (fun n us _ => ∃ (e : Int) (j : Nat), us = [.i e, .i j] ∧ n + j = l.length ∧ checkL ((l.map (·.w)).take j) = 0) l.length ⟨e, 0, rfl, rfl, rfl⟩ ?_
    rintro n _ m _ ⟨e, j, rfl, hn, hc2⟩
    refine .env (by (try simp only [liE, letsOf, letU, snd, List.append_nil]); rfl) (.ite (fun h1 => ?_) (fun h1 => .ret rfl ?_)) <;> ((try simp only [evE, liE, letsOf, letU, snd] at h1); (try simp only [cmE] at h1))
    · have hj : j < l.length := by omega
      refine .loadWD l j hj (fun g => hp.2.1.mono g.R) (.env (by (try simp only [liE, letsOf, letU, snd, List.append_nil]); rfl) (.callV (c_wordCheck l[j].p l[j].cap l[j].w (h _ (List.getElem_mem hj))) (fun g => (hp.2.2 _ (List.getElem_mem hj)).mono g.R) (.env (by (try simp only [liE, letsOf, letU, snd, List.append_nil]); rfl) (.ite (fun h2 => .ret rfl ?_) (fun h2 => .again rfl ⟨n - 1, by omega, e, j + 1, ?_, by omega, ?_⟩))))) <;> ((try simp only [evE, liE, letsOf, letU, snd] at h2); (try simp only [cmE] at h2))
      · rw [checkL_append, if_neg (by simp [hc]), checkL_take (j := j) (by simp; omega) hc2, List.drop_eq_getElem_cons (by simpa using hj), checkL, if_pos (by simpa using h2)]; simp; rfl
      · (simp only [evE, liE, letsOf, letU, snd, Sh.uss, Sh.us, atAddr, map_add0, List.append_nil]); rw [add_i64 j (by omega)]
      · exact checkL_snoc (by simpa using hj) hc2 (by simpa using h2)
    · rw [List.take_of_length_le (by simp; omega)] at hc2
      rw [checkL_append, if_neg (by simp [hc]), hc2]; rfl
theorem c_refWords (q : Option Addr) (cq : Nat) (l : List WD) (h : ∀ x ∈ l, Wok x.w) (hl : l.length < 2 ^ 62) : RetP Tryd.prog n_ref30_words [slv q l.length cq] (fun R => WordsAt R q l) (.int .i64 (checkL (l.map (·.w)))) := by
  refine Fn.of S_ref30_words mx [.p q, .i l.length, .i cq] rfl rfl fun c hp => ?_
  refine .loop (fun n us _ => ∃ (e : Int) (j : Nat), us = [.i e, .i j] ∧ n + j = l.length ∧ checkL ((l.map (·.w)).take j) = 0) l.length ⟨0, 0, rfl, rfl, rfl⟩ ?_
  rintro n _ m _ ⟨e, j, rfl, hn, hc⟩
  refine .env (by (try simp only [liE, letsOf, letU, snd, List.append_nil]); rfl) (.chk (by ((try simp only [evE, liE, letsOf, letU, snd]); (try simp only [cmE])); omega) (.ite (fun h1 => ?_) (fun h1 => .ret rfl ?_))) <;> ((try simp only [evE, liE, letsOf, letU, snd] at h1); (try simp only [cmE] at h1))
  · have hj : j < l.length := by omega
    refine .loadWD l j hj (fun g => hp.1.mono g.R) (.env (by (try simp only [liE, letsOf, letU, snd, List.append_nil]); rfl) (.callV (c_ref02Check l[j].p l[j].cap l[j].w (h _ (List.getElem_mem hj))) (fun g => (hp.2 _ (List.getElem_mem hj)).mono g.R) (.env (by (try simp only [liE, letsOf, letU, snd, List.append_nil]); rfl) (.ite (fun h2 => .ret rfl ?_) (fun h2 => .again rfl ⟨n - 1, by omega, e, j + 1, ?_, by omega, ?_⟩))))) <;> ((try simp only [evE, liE, letsOf, letU, snd] at h2); (try simp only [cmE] at h2))
    · rw [checkL_take (j := j) (by simp; omega) hc, List.drop_eq_getElem_cons (by simpa using hj), checkL, if_pos (by simpa using h2)]; simp; rfl
    · (simp only [evE, liE, letsOf, letU, snd, Sh.uss, Sh.us, atAddr, map_add0, List.append_nil]); rw [add_i64 j (by omega)]
    · exact checkL_snoc (by simpa using hj) hc (by simpa using h2)
  · rw [List.take_of_length_le (by simp; omega)] at hc
    rw [hc]; rfl
end Go.Proofs.YtpbbnmjkbfbelaaDoor
