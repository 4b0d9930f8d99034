/- Chapter 30: Solve and Front. -/
import Derived.Test.YtpbbnmjkbfbelaaDoorJe
import Derived.Test.YtpbbnmjkbfbelaaDoorTn
set_option linter.unusedSimpArgs false
set_option linter.unusedVariables false
namespace Go.Sy
open Go Go.RowKit
theorem checkL_three {a b c : List Snd} (h : checkL [a, b, c] = 0) : a.length ≤ 32 ∧ b.length ≤ 32 ∧ c.length ≤ 32 := by
  have q : ∀ {w : List Snd} {l : List (List Snd)}, checkL (w :: l) = 0 → w.length ≤ 32 ∧ checkL l = 0 := fun {w l} h => by
    unfold checkL at h
    split at h
    · rename_i h2; exact absurd h h2
    · rename_i h2
      simp only [ne_eq, Decidable.not_not] at h2
      unfold checkW at h2
      split at h2
      · omega
      · exact ⟨by omega, h⟩
  exact ⟨(q h).1, (q (q h).2).1, (q (q (q h).2).2).1⟩
theorem vals_fresh (ρ : Env) (L : List Nat) (x y : Value) : ((Sh.agg [.val, .val]).fresh ρ.length).1.den L (ρ ++ [.v x, .v y]) = .agg #[x, y] := by
  have e1 := getElem_env ρ [.v x, .v y] 0
  have e2 := getElem_env ρ [.v x, .v y] 1
  rw [Nat.add_zero] at e1
  simp only [Sh.fresh, Sh.freshs, SV.den, SV.dens, Env.val]
  rw [e1, e2]
  rfl
end Go.Sy
namespace Go.Proofs.YtpbbnmjkbfbelaaDoor
open Go Go.Sy Go.RowKit
/-- The program's variables lie as they were laid. -/
def VarsOk (R : Mv) : Prop := (R g_analogy_ending 0 = some fE1 ∧ R g_analogy_ending 1 = some fE2) ∧ R g_analogy_beginning 0 = some fF1 ∧ R g_analogy_beginning 1 = some fF2
theorem VarsOk.mono {R S : Mv} (h : VarsOk R) (hle : R.le S) : VarsOk S := ⟨⟨hle _ _ _ h.1.1, hle _ _ _ h.1.2⟩, hle _ _ _ h.2.1, hle _ _ _ h.2.2⟩
theorem _root_.Go.Sy.DenM.loadE {c : Cx} {L : List Nat} {ρ : Env} {blks : List Blk} {m : Mem} {R : Value → HW → Prop} {Dn : Nat → List U → HW → Prop} {A : List (List U → HW → Prop)} {ty : TypeId} {k : Tree} (hV : Good c L m → VarsOk (vw c L ρ blks m)) (hk : DenM Tryd.prog R Dn k L (ρ ++ [.v fE1, .v fE2]) c m A) :
    DenM Tryd.prog R Dn (.extp ⟨.load 80 (.tmp 0), ty, [.cst (.pointer (some ⟨g_analogy_ending, 0, none⟩))]⟩ (.agg [.val, .val]) blks k) L ρ c m A := .loadGl [.v fE1, .v fE2] [fE1, fE2] Tryd.underlying80 (by kernel_rfl) (by kernel_rfl) (fun g j v hj => by
  have h := hV g
  match j, hj with
  | 0, hj => cases hj; exact h.1.1
  | 1, hj => cases hj; exact h.1.2
  | j + 2, hj => simp at hj) rfl (vals_fresh _ _ _ _) hk
theorem _root_.Go.Sy.DenM.loadF {c : Cx} {L : List Nat} {ρ : Env} {blks : List Blk} {m : Mem} {R : Value → HW → Prop} {Dn : Nat → List U → HW → Prop} {A : List (List U → HW → Prop)} {ty : TypeId} {k : Tree} (hV : Good c L m → VarsOk (vw c L ρ blks m)) (hk : DenM Tryd.prog R Dn k L (ρ ++ [.v fF1, .v fF2]) c m A) :
    DenM Tryd.prog R Dn (.extp ⟨.load 80 (.tmp 0), ty, [.cst (.pointer (some ⟨g_analogy_beginning, 0, none⟩))]⟩ (.agg [.val, .val]) blks k) L ρ c m A := .loadGl [.v fF1, .v fF2] [fF1, fF2] Tryd.underlying80 (by kernel_rfl) (by kernel_rfl) (fun g j v hj => by
  have h := hV g
  match j, hj with
  | 0, hj => cases hj; exact h.2.1
  | 1, hj => cases hj; exact h.2.2
  | j + 2, hj => simp at hj) rfl (vals_fresh _ _ _ _) hk
theorem c_oneE (A B C : WD) (ha : Wok A.w) (hb : Wok B.w) (hc : Wok C.w) (oa : A.ok) (ob : B.ok) (oc : C.ok) : FnM Tryd.prog n_analogy_one [.agg #[fE1, fE2], A.v, B.v, C.v] (fun R => WordAt R A.p A.w ∧ WordAt R B.p B.w ∧ WordAt R C.p C.w) fun v mq _ => Res3 31 mq v (oneW A.w B.w C.w (solveW A.w B.w C.w)) := by
  refine FnM.of S_analogy_one mx [.v fE1, .v fE2, .p A.p, .i A.w.length, .i A.cap, .p B.p, .i B.w.length, .i B.cap, .p C.p, .i C.w.length, .i C.cap] rfl rfl fun c hp => .alloc fun b0 => .alloc fun b1 => ?_
  refine .callV (c_check0 (some ⟨b1, 0, none⟩) 3 [A, B, C] (by simp [ha, hb, hc]) (by simp)) (fun g => ⟨g.cells (j := 1) rfl rfl rfl, ?_⟩) (.env (by (try simp only [liE, letsOf, letU, snd, List.append_nil]); rfl) (.ite (fun h1 => .ret rfl ?_) (fun h1 => ?_)))
  · simp only [List.mem_cons, List.not_mem_nil, or_false]
    rintro x (rfl | rfl | rfl)
    · exact hp.1.mono g.R
    · exact hp.2.1.mono g.R
    · exact hp.2.2.mono g.R
  · ((try simp only [evE, liE, letsOf, letU, snd] at h1); (try simp only [cmE] at h1))
    replace h1 : checkL [A.w, B.w, C.w] ≠ 0 := h1
    have : ∀ o, oneW A.w B.w C.w o = ([], false, checkL [A.w, B.w, C.w]) := fun o => by unfold oneW; rw [if_pos h1]
    rw [this]; exact ⟨none, 0, rfl, .of (Row.nil _ _ _)⟩
  ((try simp only [evE, liE, letsOf, letU, snd] at h1); (try simp only [cmE] at h1))
  replace h1 : checkL [A.w, B.w, C.w] = 0 := h1
  rw [show checkL (List.map (fun x : WD => x.w) [A, B, C]) = 0 from h1]
  obtain ⟨la, lb, lc⟩ := checkL_three h1
  have hs : ∀ o, oneW A.w B.w C.w o = if (o.getD []).length > 32 then ([], false, 11) else (o.getD [], o.isSome, 0) := fun o => by unfold oneW; rw [if_neg (by simp [h1])]
  rw [hs]
  refine .callM (c_chgE A B C oa ob oc (by omega) (by omega) (by omega)) rfl rfl (fun g => ⟨hp.1.mono g.R, hp.2.1.mono g.R, hp.2.2.mono g.R⟩) ?_
  rintro v mq hf ⟨q, cq, rfl, hr⟩
  replace hr := hr.joinR (m := Mem.emp) fun b hb => (hf b hb).1
  generalize solveW A.w B.w C.w = o at *
  refine ⟨[.p q, .i ((o.getD []).length : Nat), .i (cq : Nat), .b o.isSome], uOk_of rfl, (opt_fresh _ _ _ _ _ _).symm, .env (by (try simp only [liE, letsOf, letU, snd, List.append_nil]); rfl) (.chk (by ((try simp only [evE, liE, letsOf, letU, snd]); (try simp only [cmE])); omega) (.ite (fun h2 => .ret rfl ?_) (fun h2 => .ret rfl ?_)))⟩ <;> ((try simp only [evE, liE, letsOf, letU, snd] at h2); (try simp only [cmE] at h2))
  · rw [if_pos (by omega)]; exact ⟨none, 0, rfl, .of (Row.nil _ _ _)⟩
  · rw [if_neg (by omega)]; exact ⟨q, cq, rfl, hr⟩
theorem c_Solve (A B C : WD) (ha : Wok A.w) (hb : Wok B.w) (hc : Wok C.w) (oa : A.ok) (ob : B.ok) (oc : C.ok) : FnM Tryd.prog n_analogy_Solve [A.v, B.v, C.v] (fun R => WordAt R A.p A.w ∧ WordAt R B.p B.w ∧ WordAt R C.p C.w ∧ VarsOk R) fun v mq _ => Res3 31 mq v (oneW A.w B.w C.w (solveW A.w B.w C.w)) := by
  refine FnM.of S_analogy_Solve mx [.p A.p, .i A.w.length, .i A.cap, .p B.p, .i B.w.length, .i B.cap, .p C.p, .i C.w.length, .i C.cap] rfl rfl fun c hp => ?_
  refine .loadE (fun g => hp.2.2.2.mono g.R) (.env (by (try simp only [liE, letsOf, letU, snd, List.append_nil]); rfl) (.callM (c_oneE A B C ha hb hc oa ob oc) rfl rfl (fun g => ⟨hp.1.mono g.R, hp.2.1.mono g.R, hp.2.2.1.mono g.R⟩) ?_))
  rintro v mq hf ⟨q, cq, rfl, hr⟩
  generalize oneW A.w B.w C.w (solveW A.w B.w C.w) = r at *
  exact ⟨[.p q, .i (r.1.length : Nat), .i (cq : Nat), .b r.2.1, .i r.2.2], uOk_of rfl, (res3_fresh _ _ _ _ _ _ _).symm, .env (by (try simp only [liE, letsOf, letU, snd, List.append_nil]); rfl) (.ret rfl ⟨q, cq, rfl, hr.joinR fun b hb => (hf b hb).1⟩)⟩
theorem c_oneF (A B C : WD) (ha : Wok A.w) (hb : Wok B.w) (hc : Wok C.w) (oa : A.ok) (ob : B.ok) (oc : C.ok) : FnM Tryd.prog n_analogy_one [.agg #[fF1, fF2], A.v, B.v, C.v] (fun R => WordAt R A.p A.w ∧ WordAt R B.p B.w ∧ WordAt R C.p C.w) fun v mq _ => Res3 31 mq v (oneW A.w B.w C.w (frontW A.w B.w C.w)) := by
  refine FnM.of S_analogy_one mx [.v fF1, .v fF2, .p A.p, .i A.w.length, .i A.cap, .p B.p, .i B.w.length, .i B.cap, .p C.p, .i C.w.length, .i C.cap] rfl rfl fun c hp => .alloc fun b0 => .alloc fun b1 => ?_
  refine .callV (c_check0 (some ⟨b1, 0, none⟩) 3 [A, B, C] (by simp [ha, hb, hc]) (by simp)) (fun g => ⟨g.cells (j := 1) rfl rfl rfl, ?_⟩) (.env (by (try simp only [liE, letsOf, letU, snd, List.append_nil]); rfl) (.ite (fun h1 => .ret rfl ?_) (fun h1 => ?_)))
  · simp only [List.mem_cons, List.not_mem_nil, or_false]
    rintro x (rfl | rfl | rfl)
    · exact hp.1.mono g.R
    · exact hp.2.1.mono g.R
    · exact hp.2.2.mono g.R
  · ((try simp only [evE, liE, letsOf, letU, snd] at h1); (try simp only [cmE] at h1))
    replace h1 : checkL [A.w, B.w, C.w] ≠ 0 := h1
    have : ∀ o, oneW A.w B.w C.w o = ([], false, checkL [A.w, B.w, C.w]) := fun o => by unfold oneW; rw [if_pos h1]
    rw [this]; exact ⟨none, 0, rfl, .of (Row.nil _ _ _)⟩
  ((try simp only [evE, liE, letsOf, letU, snd] at h1); (try simp only [cmE] at h1))
  replace h1 : checkL [A.w, B.w, C.w] = 0 := h1
  rw [show checkL (List.map (fun x : WD => x.w) [A, B, C]) = 0 from h1]
  obtain ⟨la, lb, lc⟩ := checkL_three h1
  have hs : ∀ o, oneW A.w B.w C.w o = if (o.getD []).length > 32 then ([], false, 11) else (o.getD [], o.isSome, 0) := fun o => by unfold oneW; rw [if_neg (by simp [h1])]
  rw [hs]
  refine .callM (c_chgF A B C oa ob oc (by omega) (by omega) (by omega)) rfl rfl (fun g => ⟨hp.1.mono g.R, hp.2.1.mono g.R, hp.2.2.mono g.R⟩) ?_
  rintro v mq hf ⟨q, cq, rfl, hr⟩
  replace hr := hr.joinR (m := Mem.emp) fun b hb => (hf b hb).1
  generalize frontW A.w B.w C.w = o at *
  refine ⟨[.p q, .i ((o.getD []).length : Nat), .i (cq : Nat), .b o.isSome], uOk_of rfl, (opt_fresh _ _ _ _ _ _).symm, .env (by (try simp only [liE, letsOf, letU, snd, List.append_nil]); rfl) (.chk (by ((try simp only [evE, liE, letsOf, letU, snd]); (try simp only [cmE])); omega) (.ite (fun h2 => .ret rfl ?_) (fun h2 => .ret rfl ?_)))⟩ <;> ((try simp only [evE, liE, letsOf, letU, snd] at h2); (try simp only [cmE] at h2))
  · rw [if_pos (by omega)]; exact ⟨none, 0, rfl, .of (Row.nil _ _ _)⟩
  · rw [if_neg (by omega)]; exact ⟨q, cq, rfl, hr⟩
theorem c_Front (A B C : WD) (ha : Wok A.w) (hb : Wok B.w) (hc : Wok C.w) (oa : A.ok) (ob : B.ok) (oc : C.ok) : FnM Tryd.prog n_analogy_Front [A.v, B.v, C.v] (fun R => WordAt R A.p A.w ∧ WordAt R B.p B.w ∧ WordAt R C.p C.w ∧ VarsOk R) fun v mq _ => Res3 31 mq v (oneW A.w B.w C.w (frontW A.w B.w C.w)) := by
  refine FnM.of S_analogy_Front mx [.p A.p, .i A.w.length, .i A.cap, .p B.p, .i B.w.length, .i B.cap, .p C.p, .i C.w.length, .i C.cap] rfl rfl fun c hp => ?_
  refine .loadF (fun g => hp.2.2.2.mono g.R) (.env (by (try simp only [liE, letsOf, letU, snd, List.append_nil]); rfl) (.callM (c_oneF A B C ha hb hc oa ob oc) rfl rfl (fun g => ⟨hp.1.mono g.R, hp.2.1.mono g.R, hp.2.2.1.mono g.R⟩) ?_))
  rintro v mq hf ⟨q, cq, rfl, hr⟩
  generalize oneW A.w B.w C.w (frontW A.w B.w C.w) = r at *
  exact ⟨[.p q, .i (r.1.length : Nat), .i (cq : Nat), .b r.2.1, .i r.2.2], uOk_of rfl, (res3_fresh _ _ _ _ _ _ _).symm, .env (by (try simp only [liE, letsOf, letU, snd, List.append_nil]); rfl) (.ret rfl ⟨q, cq, rfl, hr.joinR fun b hb => (hf b hb).1⟩)⟩
theorem c_back (A : WD) (la : A.w.length < 2 ^ 40) : FnM Tryd.prog n_ref30_backwards [A.v] (fun R => WordAt R A.p A.w) fun v mq _ => ∃ q cq, v = slv q A.w.reverse.length cq ∧ RowW mq 31 q cq A.w.reverse := by
  obtain ⟨p, ca, a⟩ := A
  simp only [] at la
  refine FnM.of S_ref30_backwards mx [.p p, .i a.length, .i ca] rfl rfl fun c hp => .chk (by ((try simp only [evE, liE, letsOf, letU, snd]); (try simp only [cmE])); omega) ?_
  refine .loop (fun n us m => ∃ (q : Option Addr) (cq : Nat), n ≤ a.length ∧ us = [.p q, .i ((a.length - n : Nat) : Int), .i (cq : Nat), .i ((n : Int) - 1)] ∧ Row m 31 2 q cq (a.length - n) (wcells (a.reverse.take (a.length - n)))) a.length ⟨none, 0, Nat.le_refl _, ?_, by simpa [wcells] using Row.nil _ _ _⟩ ?_
  · (simp only [evE, liE, letsOf, letU, snd, Sh.uss, Sh.us, atAddr, map_add0, List.append_nil]); rw [subI (by omega) (by omega), Nat.sub_self]
  rintro n _ m _ ⟨q, cq, hn, rfl, hrow⟩
  refine .env (by (try simp only [liE, letsOf, letU, snd, List.append_nil]); rfl) (.ite (fun h1 => ?_) (fun h1 => .ret rfl ⟨q, cq, ?_⟩)) <;> ((try simp only [evE, liE, letsOf, letU, snd] at h1); (try simp only [cmE] at h1))
  · obtain ⟨j, rfl⟩ : ∃ j, n = j + 1 := ⟨n - 1, by omega⟩
    have hj : j < a.length := by omega
    have hl : a.length - j = a.length - (j + 1) + 1 := by omega
    have ht : a.reverse.take (a.length - j) = a.reverse.take (a.length - (j + 1)) ++ [a[j]] := by
      rw [hl, List.take_succ_eq_append_getElem (by simp; omega), List.getElem_reverse]
      congr 3
      omega
    refine .env (by (try simp only [liE, letsOf, letU, snd, List.append_nil]); rw [show ((j + 1 : Nat) : Int) - 1 = (j : Int) by omega]) (.loadW a j hj (fun g => hp.mono g.R) (.env (by (try simp only [liE, letsOf, letU, snd, List.append_nil]); rfl) (.alloc fun b0 => .append (q := q) (cap := cq) (n := a.length - (j + 1)) (qx := some ⟨b0, 0, none⟩) (kx := 1) (capx := 1) (news := wcells [a[j]]) el22 hrow (fun g => g.cells (j := 0) rfl rfl rfl) (by simp [wcells, scell]) (wcells_one _) (fun h => by cases h) (by simp [maxLen]; omega) (by omega) (fun q' cq' m' hr' _ _ => .again rfl ⟨j, by omega, q', cq', by omega, ?_, ?_⟩))))
    · (simp only [evE, liE, letsOf, letU, snd, Sh.uss, Sh.us, atAddr, map_add0, List.append_nil]); rw [subI (by omega) (by omega), hl]
    · rw [hl] at ht ⊢; rw [ht, wcells_append]; exact hr'
  · obtain rfl : n = 0 := by omega
    rw [Nat.sub_zero] at hrow ⊢
    rw [List.take_of_length_le (by simp)] at hrow
    simp only [List.length_reverse]
    exact ⟨rfl, .of (by rw [List.length_reverse]; exact hrow)⟩
end Go.Proofs.YtpbbnmjkbfbelaaDoor
