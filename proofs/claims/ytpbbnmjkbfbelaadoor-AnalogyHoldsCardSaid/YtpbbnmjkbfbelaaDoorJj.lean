/- Chapter 30: Holds, Explain, Count, of both; the reference's Solve and Front. -/
import Derived.Test.YtpbbnmjkbfbelaaDoorJi
set_option linter.unusedSimpArgs false
set_option linter.unusedVariables false
namespace Go.Sy
open Go Go.RowKit
theorem checkL_all {l : List (List Snd)} (h : checkL l = 0) : ∀ w ∈ l, w.length ≤ 32 := by
  induction l with
  | nil => simp
  | cons w l ih =>
    unfold checkL at h
    split at h
    · rename_i h2; exact absurd h h2
    · rename_i h2
      simp only [ne_eq, Decidable.not_not] at h2
      intro x hx
      rcases List.mem_cons.1 hx with rfl | hx
      · exact (checkW_zero h2).1
      · exact ih h x hx
theorem chkM_all {ms : List MD} {l : List (List Snd)} (h : chkM ms l = 0) : ms.length ≤ 256 ∧ (∀ x ∈ ms, x.a.w.length ≤ 32 ∧ x.b.w.length ≤ 32) ∧ ∀ w ∈ l, w.length ≤ 32 := by
  unfold chkM at h
  split at h
  · cases h
  · have := checkL_all h
    refine ⟨by omega, fun x hx => ⟨this _ ?_, this _ ?_⟩, fun w hw => this _ (List.mem_append_right _ hw)⟩ <;> refine List.mem_append_left _ (List.mem_flatMap.2 ⟨x, hx, ?_⟩) <;> simp
/-- A model supports that c is to d. -/
def supM (c d : List Snd) (m : MD) : Bool := supW m.a.w m.b.w c d
def holdsW (a b c d : List Snd) : Bool × Int := if checkL [a, b, c, d] ≠ 0 then (false, checkL [a, b, c, d]) else (supW a b c d, 0)
def foundW : Option Nat → Int × Bool × Int
  | some i => ((i : Int), true, 0)
  | none => (0, false, 0)
def explW (ms : List MD) (c d : List Snd) : Int × Bool × Int := if chkM ms [c, d] ≠ 0 then (0, false, chkM ms [c, d]) else foundW (ms.findIdx? (supM c d))
def countW (ms : List MD) (c d : List Snd) : Int × Int := if chkM ms [c, d] ≠ 0 then (0, chkM ms [c, d]) else (((ms.countP (supM c d) : Nat) : Int), 0)
theorem findIdx?_at {α : Type} {p : α → Bool} {l : List α} {j : Nat} (hj : j < l.length) (h : p l[j] = true) (hb : ∀ i (hi : i < l.length), i < j → p l[i] = false) : l.findIdx? p = some j := by
  rw [List.findIdx?_eq_some_iff_getElem]
  exact ⟨hj, h, fun i hi => by simp [hb i (by omega) hi]⟩
theorem findIdx?_none {α : Type} {p : α → Bool} {l : List α} (hb : ∀ i (hi : i < l.length), p l[i] = false) : l.findIdx? p = none := by
  rw [List.findIdx?_eq_none_iff]
  intro x hx
  obtain ⟨i, hi, rfl⟩ := List.getElem_of_mem hx
  exact hb i hi
theorem countP_snoc {α : Type} {p : α → Bool} {l : List α} {j : Nat} (hj : j < l.length) : (l.take (j + 1)).countP p = (l.take j).countP p + if p l[j] then 1 else 0 := by
  rw [List.take_succ_eq_append_getElem hj, List.countP_append]
  by_cases h : p l[j] = true <;> simp [h]
end Go.Sy
namespace Go.Proofs.YtpbbnmjkbfbelaaDoor
open Go Go.Sy Go.RowKit
theorem c_ref30check (p : Option Addr) (cp : Nat) (ms : List MD) (q : Option Addr) (cq : Nat) (l : List WD) (hm : ModelsOk ms) (h : ∀ x ∈ l, Wok x.w) (hl : l.length < 2 ^ 62) : RetP Tryd.prog n_ref30_check [slv p ms.length cp, slv q l.length cq] (fun R => ModelsAt R p ms ∧ WordsAt R q l) (.int .i64 (chkM ms (l.map (·.w)))) := by
  refine Fn.of S_ref30_check mx [.p p, .i ms.length, .i cp, .p q, .i l.length, .i cq] rfl rfl fun c hp => .chk (by ((try simp only [evE, liE, letsOf, letU, snd]); (try simp only [cmE])); omega) (.ite (fun h1 => .ret rfl ?_) (fun h1 => ?_)) <;> ((try simp only [evE, liE, letsOf, letU, snd] at h1); (try simp only [cmE] at h1))
  · have : chkM ms (l.map (·.w)) = 12 := by unfold chkM; rw [if_pos (by omega)]
    rw [this]; rfl
  have hs : chkM ms (l.map (·.w)) = checkL (mwords ms ++ l.map (·.w)) := by unfold chkM; rw [if_neg (by omega)]
  rw [hs]
  refine .loop (fun n us _ => ∃ (e : Int) (j : Nat), us = [.i e, .i j] ∧ n + j = ms.length ∧ checkL (mwords (ms.take j)) = 0) ms.length ⟨0, 0, rfl, rfl, rfl⟩ ?_
  rintro n _ m _ ⟨e, j, rfl, hn, hc⟩
  refine .env (by (try simp only [liE, letsOf, letU, snd, List.append_nil]); rfl) (.chk (by ((try simp only [evE, liE, letsOf, letU, snd]); (try simp only [cmE])); omega) (.ite (fun h2 => ?_) (fun h2 => ?_))) <;> ((try simp only [evE, liE, letsOf, letU, snd] at h2); (try simp only [cmE] at h2))
  · have hj : j < ms.length := by omega
    have hok := hm _ (List.getElem_mem hj)
    have hat := hp.1.2 _ (List.getElem_mem hj)
    have hcs := mcells_at ms j hj
    obtain ⟨b, o, hpe⟩ := (hp.1.1.some (i := j * 2) (by rw [mcells_len]; omega) : ∃ b o, p = some ⟨b, o, none⟩)
    subst hpe
    refine .chk (by ((try simp only [evE, liE, letsOf, letU, snd]); (try simp only [cmE])); simp; omega) (.chk (by ((try simp only [evE, liE, letsOf, letU, snd]); (try simp only [cmE])); simp; omega) (.loadS (mcells ms) (j * 2) ms[j].a.p ms[j].a.w.length ms[j].a.cap ?_ hcs.1 (fun g => hp.1.1.mono g.R) (.env (by (try simp only [liE, letsOf, letU, snd, List.append_nil]); rfl) (.chk (by ((try simp only [evE, liE, letsOf, letU, snd]); (try simp only [cmE])); simp; omega) (.chk (by ((try simp only [evE, liE, letsOf, letU, snd]); (try simp only [cmE])); simp; omega) (.loadS (mcells ms) (j * 2 + 1) ms[j].b.p ms[j].b.w.length ms[j].b.cap ?_ hcs.2 (fun g => hp.1.1.mono g.R) (.env (by (try simp only [liE, letsOf, letU, snd, List.append_nil]); rfl) (.alloc fun b0 => .callV (c_refWords (some ⟨b0, 0, none⟩) 2 [ms[j].a, ms[j].b] (by simp [hok.1, hok.2.1]) (by simp)) (fun g => ⟨g.cells (j := 0) rfl rfl rfl, ?_⟩) (.env (by (try simp only [liE, letsOf, letU, snd, List.append_nil]); rfl) (.ite (fun h3 => .ret rfl ?_) (fun h3 => .again rfl ⟨n - 1, by omega, e, j + 1, ?_, by omega, ?_⟩)))))))))))
    · simp only [IT.eval, Env.int]; simp
    · simp only [IT.eval, Env.int]; simp <;> omega
    · simp only [List.mem_cons, List.not_mem_nil, or_false]
      rintro x (rfl | rfl)
      · exact hat.1.mono g.R
      · exact hat.2.mono g.R
    · ((try simp only [evE, liE, letsOf, letU, snd] at h3); (try simp only [cmE] at h3))
      replace h3 : checkL [ms[j].a.w, ms[j].b.w] ≠ 0 := h3
      rw [chk_model hj hc h3]; rfl
    · (simp only [evE, liE, letsOf, letU, snd, Sh.uss, Sh.us, atAddr, map_add0, List.append_nil]); rw [add_i64 j (by omega)]
    · ((try simp only [evE, liE, letsOf, letU, snd] at h3); (try simp only [cmE] at h3))
      replace h3 : checkL [ms[j].a.w, ms[j].b.w] = 0 := h3
      rw [mwords_snoc hj, checkL_append, if_neg (by simp [hc])]; exact h3
  · rw [List.take_of_length_le (by omega)] at hc
    rw [checkL_append, if_neg (by simp [hc])]
    exact .callV (c_refWords q cq l h hl) (fun g => ⟨hp.2.1.mono g.R, fun x hx => (hp.2.2 x hx).mono g.R⟩) (.ret rfl rfl)
theorem c_refSolve (A B C : WD) (ha : Wok A.w) (hb : Wok B.w) (hc : Wok C.w) (oa : A.ok) (ob : B.ok) (oc : C.ok) : FnM Tryd.prog n_ref30_Solve [A.v, B.v, C.v] (fun R => WordAt R A.p A.w ∧ WordAt R B.p B.w ∧ WordAt R C.p C.w) fun v mq _ => Res3 31 mq v (oneW A.w B.w C.w (solveW A.w B.w C.w)) := by
  refine FnM.of S_ref30_Solve mx [.p A.p, .i A.w.length, .i A.cap, .p B.p, .i B.w.length, .i B.cap, .p C.p, .i C.w.length, .i C.cap] rfl rfl fun c hp => .alloc fun b0 => ?_
  refine .callV (c_refWords (some ⟨b0, 0, none⟩) 3 [A, B, C] (by simp [ha, hb, hc]) (by simp)) (fun g => ⟨g.cells (j := 0) rfl rfl rfl, ?_⟩) (.env (by (try simp only [liE, letsOf, letU, snd, List.append_nil]); rfl) (.ite (fun h1 => .ret rfl ?_) (fun h1 => ?_)))
  · simp only [List.mem_cons, List.not_mem_nil, or_false]
    rintro x (rfl | rfl | rfl)
    · exact hp.1.mono g.R
    · exact hp.2.1.mono g.R
    · exact hp.2.2.mono g.R
  · ((try simp only [evE, liE, letsOf, letU, snd] at h1); (try simp only [cmE] at h1))
    replace h1 : checkL [A.w, B.w, C.w] ≠ 0 := h1
    have : ∀ o, oneW A.w B.w C.w o = ([], false, checkL [A.w, B.w, C.w]) := fun o => by unfold oneW; rw [if_pos h1]
    rw [this]; exact ⟨none, 0, rfl, .of (Row.nil _ _ _)⟩
  ((try simp only [evE, liE, letsOf, letU, snd] at h1); (try simp only [cmE] at h1))
  replace h1 : checkL [A.w, B.w, C.w] = 0 := h1
  rw [show checkL (List.map (fun x : WD => x.w) [A, B, C]) = 0 from h1]
  obtain ⟨la, lb, lc⟩ := checkL_three h1
  have hs : ∀ o, oneW A.w B.w C.w o = if (o.getD []).length > 32 then ([], false, 11) else (o.getD [], o.isSome, 0) := fun o => by unfold oneW; rw [if_neg (by simp [h1])]
  rw [hs]
  refine .callM (c_refSolve0 A B C oa ob oc (by omega) (by omega) (by omega)) rfl rfl (fun g => ⟨hp.1.mono g.R, hp.2.1.mono g.R, hp.2.2.mono g.R⟩) ?_
  rintro v mq hf ⟨q, cq, rfl, hr⟩
  replace hr := hr.joinR (m := Mem.emp) fun b hb => (hf b hb).1
  generalize solveW A.w B.w C.w = o at *
  refine ⟨[.p q, .i ((o.getD []).length : Nat), .i (cq : Nat), .b o.isSome], uOk_of rfl, (opt_fresh _ _ _ _ _ _).symm, .env (by (try simp only [liE, letsOf, letU, snd, List.append_nil]); rfl) (.chk (by ((try simp only [evE, liE, letsOf, letU, snd]); (try simp only [cmE])); omega) (.ite (fun h2 => .ret rfl ?_) (fun h2 => .ret rfl ?_)))⟩ <;> ((try simp only [evE, liE, letsOf, letU, snd] at h2); (try simp only [cmE] at h2))
  · rw [if_pos (by omega)]; exact ⟨none, 0, rfl, .of (Row.nil _ _ _)⟩
  · rw [if_neg (by omega)]; exact ⟨q, cq, rfl, hr⟩
theorem c_refFront (A B C : WD) (ha : Wok A.w) (hb : Wok B.w) (hc : Wok C.w) : FnM Tryd.prog n_ref30_Front [A.v, B.v, C.v] (fun R => WordAt R A.p A.w ∧ WordAt R B.p B.w ∧ WordAt R C.p C.w) fun v mq _ => Res3 31 mq v (oneW A.w B.w C.w (frontW A.w B.w C.w)) := by
  refine FnM.of S_ref30_Front mx [.p A.p, .i A.w.length, .i A.cap, .p B.p, .i B.w.length, .i B.cap, .p C.p, .i C.w.length, .i C.cap] rfl rfl fun c hp => .alloc fun b0 => ?_
  refine .callV (c_refWords (some ⟨b0, 0, none⟩) 3 [A, B, C] (by simp [ha, hb, hc]) (by simp)) (fun g => ⟨g.cells (j := 0) rfl rfl rfl, ?_⟩) (.env (by (try simp only [liE, letsOf, letU, snd, List.append_nil]); rfl) (.ite (fun h1 => .ret rfl ?_) (fun h1 => ?_)))
  · simp only [List.mem_cons, List.not_mem_nil, or_false]
    rintro x (rfl | rfl | rfl)
    · exact hp.1.mono g.R
    · exact hp.2.1.mono g.R
    · exact hp.2.2.mono g.R
  · ((try simp only [evE, liE, letsOf, letU, snd] at h1); (try simp only [cmE] at h1))
    replace h1 : checkL [A.w, B.w, C.w] ≠ 0 := h1
    have : ∀ o, oneW A.w B.w C.w o = ([], false, checkL [A.w, B.w, C.w]) := fun o => by unfold oneW; rw [if_pos h1]
    rw [this]; exact ⟨none, 0, rfl, .of (Row.nil _ _ _)⟩
  ((try simp only [evE, liE, letsOf, letU, snd] at h1); (try simp only [cmE] at h1))
  replace h1 : checkL [A.w, B.w, C.w] = 0 := h1
  rw [show checkL (List.map (fun x : WD => x.w) [A, B, C]) = 0 from h1]
  obtain ⟨la, lb, lc⟩ := checkL_three h1
  have hs : ∀ o, oneW A.w B.w C.w o = if (o.getD []).length > 32 then ([], false, 11) else (o.getD [], o.isSome, 0) := fun o => by unfold oneW; rw [if_neg (by simp [h1])]
  rw [hs]
  refine .callM (c_refFront0 A B C (by omega) (by omega) (by omega)) rfl rfl (fun g => ⟨hp.1.mono g.R, hp.2.1.mono g.R, hp.2.2.mono g.R⟩) ?_
  rintro v mq hf ⟨q, cq, rfl, hr⟩
  replace hr := hr.joinR (m := Mem.emp) fun b hb => (hf b hb).1
  generalize frontW A.w B.w C.w = o at *
  refine ⟨[.p q, .i ((o.getD []).length : Nat), .i (cq : Nat), .b o.isSome], uOk_of rfl, (opt_fresh _ _ _ _ _ _).symm, .env (by (try simp only [liE, letsOf, letU, snd, List.append_nil]); rfl) (.chk (by ((try simp only [evE, liE, letsOf, letU, snd]); (try simp only [cmE])); omega) (.ite (fun h2 => .ret rfl ?_) (fun h2 => .ret rfl ?_)))⟩ <;> ((try simp only [evE, liE, letsOf, letU, snd] at h2); (try simp only [cmE] at h2))
  · rw [if_pos (by omega)]; exact ⟨none, 0, rfl, .of (Row.nil _ _ _)⟩
  · rw [if_neg (by omega)]; exact ⟨q, cq, rfl, hr⟩
theorem c_Holds (A B C D : WD) (ha : Wok A.w) (hb : Wok B.w) (hc : Wok C.w) (hd : Wok D.w) (oa : A.ok) (ob : B.ok) (oc : C.ok) : RetP Tryd.prog n_analogy_Holds [A.v, B.v, C.v, D.v] (fun R => WordAt R A.p A.w ∧ WordAt R B.p B.w ∧ WordAt R C.p C.w ∧ WordAt R D.p D.w ∧ VarsOk R) (.tuple #[.bool (holdsW A.w B.w C.w D.w).1, .int .i64 (holdsW A.w B.w C.w D.w).2]) := by
  refine Fn.of S_analogy_Holds mx [.p A.p, .i A.w.length, .i A.cap, .p B.p, .i B.w.length, .i B.cap, .p C.p, .i C.w.length, .i C.cap, .p D.p, .i D.w.length, .i D.cap] rfl rfl fun c hp => .alloc fun b0 => ?_
  refine .callV (c_check0 (some ⟨b0, 0, none⟩) 4 [A, B, C, D] (by simp [ha, hb, hc, hd]) (by simp)) (fun g => ⟨g.cells (j := 0) rfl rfl rfl, ?_⟩) (.env (by (try simp only [liE, letsOf, letU, snd, List.append_nil]); rfl) (.ite (fun h1 => .ret rfl ?_) (fun h1 => ?_)))
  · simp only [List.mem_cons, List.not_mem_nil, or_false]
    rintro x (rfl | rfl | rfl | rfl)
    · exact hp.1.mono g.R
    · exact hp.2.1.mono g.R
    · exact hp.2.2.1.mono g.R
    · exact hp.2.2.2.1.mono g.R
  · ((try simp only [evE, liE, letsOf, letU, snd] at h1); (try simp only [cmE] at h1))
    replace h1 : checkL [A.w, B.w, C.w, D.w] ≠ 0 := h1
    have : holdsW A.w B.w C.w D.w = (false, checkL [A.w, B.w, C.w, D.w]) := by unfold holdsW; rw [if_pos h1]
    rw [this]; rfl
  ((try simp only [evE, liE, letsOf, letU, snd] at h1); (try simp only [cmE] at h1))
  replace h1 : checkL [A.w, B.w, C.w, D.w] = 0 := h1
  have l1 := checkL_all h1
  simp only [List.mem_cons, List.not_mem_nil, or_false, forall_eq_or_imp, forall_eq] at l1
  have : holdsW A.w B.w C.w D.w = (supW A.w B.w C.w D.w, 0) := by unfold holdsW; rw [if_neg (by simp [h1])]
  rw [this]
  exact .callV (c_supports A B C D oa ob oc (by omega) (by omega) (by omega) (by omega)) (fun g => ⟨hp.1.mono g.R, hp.2.1.mono g.R, hp.2.2.1.mono g.R, hp.2.2.2.1.mono g.R, hp.2.2.2.2.mono g.R⟩) (.ret rfl rfl)
theorem c_refHolds (A B C D : WD) (ha : Wok A.w) (hb : Wok B.w) (hc : Wok C.w) (hd : Wok D.w) (oa : A.ok) (ob : B.ok) (oc : C.ok) : RetP Tryd.prog n_ref30_Holds [A.v, B.v, C.v, D.v] (fun R => WordAt R A.p A.w ∧ WordAt R B.p B.w ∧ WordAt R C.p C.w ∧ WordAt R D.p D.w) (.tuple #[.bool (holdsW A.w B.w C.w D.w).1, .int .i64 (holdsW A.w B.w C.w D.w).2]) := by
  refine Fn.of S_ref30_Holds mx [.p A.p, .i A.w.length, .i A.cap, .p B.p, .i B.w.length, .i B.cap, .p C.p, .i C.w.length, .i C.cap, .p D.p, .i D.w.length, .i D.cap] rfl rfl fun c hp => .alloc fun b0 => ?_
  refine .callV (c_refWords (some ⟨b0, 0, none⟩) 4 [A, B, C, D] (by simp [ha, hb, hc, hd]) (by simp)) (fun g => ⟨g.cells (j := 0) rfl rfl rfl, ?_⟩) (.env (by (try simp only [liE, letsOf, letU, snd, List.append_nil]); rfl) (.ite (fun h1 => .ret rfl ?_) (fun h1 => ?_)))
  · simp only [List.mem_cons, List.not_mem_nil, or_false]
    rintro x (rfl | rfl | rfl | rfl)
    · exact hp.1.mono g.R
    · exact hp.2.1.mono g.R
    · exact hp.2.2.1.mono g.R
    · exact hp.2.2.2.mono g.R
  · ((try simp only [evE, liE, letsOf, letU, snd] at h1); (try simp only [cmE] at h1))
    replace h1 : checkL [A.w, B.w, C.w, D.w] ≠ 0 := h1
    have : holdsW A.w B.w C.w D.w = (false, checkL [A.w, B.w, C.w, D.w]) := by unfold holdsW; rw [if_pos h1]
    rw [this]; rfl
  ((try simp only [evE, liE, letsOf, letU, snd] at h1); (try simp only [cmE] at h1))
  replace h1 : checkL [A.w, B.w, C.w, D.w] = 0 := h1
  have l1 := checkL_all h1
  simp only [List.mem_cons, List.not_mem_nil, or_false, forall_eq_or_imp, forall_eq] at l1
  have : holdsW A.w B.w C.w D.w = (supW A.w B.w C.w D.w, 0) := by unfold holdsW; rw [if_neg (by simp [h1])]
  rw [this]
  exact .callV (c_refSup A B C D oa ob oc (by omega) (by omega) (by omega) (by omega)) (fun g => ⟨hp.1.mono g.R, hp.2.1.mono g.R, hp.2.2.1.mono g.R, hp.2.2.2.mono g.R⟩) (.ret rfl rfl)
end Go.Proofs.YtpbbnmjkbfbelaaDoor
