/- Chapter 30: the laws AnalogyNone and AnalogySums. -/
import Derived.Test.YtpbbnmjkbfbelaaDoorYo
import Derived.Test.YtpbbnmjkbfbelaaDoorTcNone
import Derived.Test.YtpbbnmjkbfbelaaDoorTcSums
set_option linter.unusedSimpArgs false
set_option linter.unusedVariables false
namespace Go.Proofs.YtpbbnmjkbfbelaaDoor
open Go Go.Sy Go.RowKit
theorem c_good (q : Option Addr) (cq : Nat) (l : List WD) (h : ∀ x ∈ l, Wok x.w) (hl : l.length < 2 ^ 62) : RetP Tryd.prog n_law30_good [slv q l.length cq] (fun R => WordsAt R q l) (.bool (decide (checkL (l.map (·.w)) = 0))) := by
  refine Fn.of S_law30_good mx [.p q, .i l.length, .i cq] rfl rfl fun c hp => ?_
  refine .loop (fun n us _ => ∃ (e : Bool) (j : Nat), us = [.b e, .i j] ∧ n + j = l.length ∧ checkL ((l.map (·.w)).take j) = 0) l.length ⟨false, 0, rfl, rfl, rfl⟩ ?_
  rintro n _ m _ ⟨e, j, rfl, hn, hc⟩
  refine .env (by (try simp only [liE, letsOf, letU, snd, List.append_nil]); rfl) (.chk (by ((try simp only [evE, liE, letsOf, letU, snd]); (try simp only [cmE])); omega) (.ite (fun h1 => ?_) (fun h1 => .ret rfl ?_))) <;> ((try simp only [evE, liE, letsOf, letU, snd] at h1); (try simp only [cmE] at h1))
  · have hj : j < l.length := by omega
    have hbad : checkW l[j].w ≠ 0 → ¬ checkL (l.map (·.w)) = 0 := fun hne h0 => hne (checkL_zero.1 h0 _ (List.mem_map_of_mem (List.getElem_mem hj)))
    refine .loadWD l j hj (fun g => hp.1.mono g.R) (.env (by (try simp only [liE, letsOf, letU, snd, List.append_nil]); rfl) (.chk (by ((try simp only [evE, liE, letsOf, letU, snd]); (try simp only [cmE])); omega) (.ite (fun h2 => .ret rfl ?_) (fun h2 => ?_)))) <;> ((try simp only [evE, liE, letsOf, letU, snd] at h2); (try simp only [cmE] at h2))
    · have : checkW l[j].w ≠ 0 := fun h0 => by have := (checkW_iff.1 h0).1; omega
      rw [decide_eq_false (hbad this)]; rfl
    refine .loadWD l j hj (fun g => hp.1.mono g.R) (.env (by (try simp only [liE, letsOf, letU, snd, List.append_nil]); rfl) (.callV (c_wordCheck l[j].p l[j].cap l[j].w (h _ (List.getElem_mem hj))) (fun g => (hp.2 _ (List.getElem_mem hj)).mono g.R) (.env (by (try simp only [liE, letsOf, letU, snd, List.append_nil]); rfl) (.ite (fun h3 => .ret rfl ?_) (fun h3 => .again rfl ⟨n - 1, by omega, e, j + 1, ?_, by omega, ?_⟩))))) <;> ((try simp only [evE, liE, letsOf, letU, snd] at h3); (try simp only [cmE] at h3))
    · rw [decide_eq_false (hbad h3)]; rfl
    · (simp only [evE, liE, letsOf, letU, snd, Sh.uss, Sh.us, atAddr, map_add0, List.append_nil]); rw [add_i64 j (by omega)]
    · exact checkL_snoc (by simpa using hj) hc (by simpa using h3)
  · rw [List.take_of_length_le (by simp; omega)] at hc
    rw [decide_eq_true hc]; rfl
theorem fits_some {a b c : List Snd} : (solveW a b c).isSome = true ↔ (a.drop (cpl a b)).length ≤ c.length ∧ c.drop (c.length - (a.drop (cpl a b)).length) = a.drop (cpl a b) := by
  unfold solveW applyE
  split
  · rename_i h; exact ⟨fun _ => h, fun _ => rfl⟩
  · rename_i h; exact ⟨fun q => (by cases q), fun q => absurd q h⟩
set_option maxHeartbeats 1000000 in
theorem l_AnalogyNone (A B C : WD) (ha : Wok A.w) (hb : Wok B.w) (hc : Wok C.w) (oa : A.ok) (ob : B.ok) (oc : C.ok) : RetP Tryd.prog n_law30_AnalogyNone [A.v, B.v, C.v] (fun R => WordAt R A.p A.w ∧ WordAt R B.p B.w ∧ WordAt R C.p C.w ∧ VarsOk R) (.bool true) := by
  refine Fn.of S_law30_AnalogyNone mx [.p A.p, .i A.w.length, .i A.cap, .p B.p, .i B.w.length, .i B.cap, .p C.p, .i C.w.length, .i C.cap] rfl rfl fun c hp => .alloc fun b0 => ?_
  obtain ⟨hA, hB, hC, hV⟩ := hp
  refine .callV (c_good (some ⟨b0, 0, none⟩) 3 [A, B, C] (by simp [ha, hb, hc]) (by simp)) (fun g => ⟨g.cells (j := 0) rfl rfl rfl, ?_⟩) (.env (by (try simp only [liE, letsOf, letU, snd, List.append_nil]); rfl) (.ite (fun h1 => .callV c_works (fun g => hV.mono g.R) (.ret rfl rfl)) (fun h1 => ?_)))
  · simp only [List.mem_cons, List.not_mem_nil, or_false]
    rintro x (rfl | rfl | rfl)
    · exact hA.mono g.R
    · exact hB.mono g.R
    · exact hC.mono g.R
  replace h1 : (!decide (checkL [A.w, B.w, C.w] = 0)) = false := h1
  simp only [Bool.not_eq_false', decide_eq_true_eq] at h1
  rw [show decide (checkL (List.map (fun x : WD => x.w) [A, B, C]) = 0) = true from decide_eq_true h1]
  rw [checkL_zero] at h1
  have ca := h1 A.w (by simp); have cb := h1 B.w (by simp); have cc := h1 C.w (by simp)
  have la := (checkW_iff.1 ca).1; have lb := (checkW_iff.1 cb).1; have lc := (checkW_iff.1 cc).1
  have h1w : ∀ o, oneW A.w B.w C.w o = if (o.getD []).length > 32 then ([], false, 11) else (o.getD [], o.isSome, 0) := fun o => oneW_ok ca cb cc
  clear h1
  refine .callM (c_common A.p B.p A.cap B.cap A.w B.w (by omega) (by omega)) rfl rfl (fun g => ⟨hA.mono g.R, hB.mono g.R⟩) ?_
  rintro v mq hf ⟨k, rfl⟩
  clear hf
  generalize Mem.emp.join mq = m0
  have hle := cpl_le A.w B.w
  have hla := oa.le; have hlb := ob.le; have hlc := oc.le
  have hfit := fits_some (a := A.w) (b := B.w) (c := C.w)
  have hsol : solveW A.w B.w C.w = applyE (A.from (cpl A.w B.w)).w (B.from (cpl A.w B.w)).w C.w := rfl
  have eA : A.w.drop (cpl A.w B.w) = (A.from (cpl A.w B.w)).w := rfl
  rw [eA] at hfit
  refine ⟨[.i (cpl A.w B.w : Nat), .i k], uOk_of rfl, rfl, .env (by (try simp only [liE, letsOf, letU, snd, List.append_nil]); rfl) ?_⟩
  generalize cpl A.w B.w = n at *
  have hX : (A.from n).w.length = A.w.length - n := by simp [WD.from]
  have hY : (B.from n).w.length = B.w.length - n := by simp [WD.from]
  have ox : (A.from n).ok := WD.from_ok oa hle.1
  have oy : (B.from n).ok := WD.from_ok ob hle.2
  rw [hX] at hfit
  refine .chk (by ((try simp only [evE, liE, letsOf, letU, snd]); (try simp only [cmE])); omega) (.chk (by ((try simp only [evE, liE, letsOf, letU, snd]); (try simp only [cmE])); omega) ?_)
  refine .join (fun us mm => us = [.b (solveW A.w B.w C.w).isSome]) (.chk (by ((try simp only [evE, liE, letsOf, letU, snd]); (try simp only [cmE])); omega) (.chk (by ((try simp only [evE, liE, letsOf, letU, snd]); (try simp only [cmE])); omega) (.ite (fun h1 => ?_) (fun h1 => .again rfl ?_)))) ?_
  · ((try simp only [evE, liE, letsOf, letU, snd] at h1); (try simp only [cmE] at h1))
    obtain ⟨r, hr⟩ : ∃ r, r = C.w.length - (A.w.length - n) := ⟨_, rfl⟩
    rw [← hr] at hfit
    have er : ar .sub .i64 (C.w.length : Int) (if (C.w.length : Int) < (A.w.length : Int) - (n : Int) then (C.w.length : Int) else (A.w.length : Int) - (n : Int)) = (r : Int) := by rw [if_neg (by omega), subI (by omega) (by omega)]; omega
    refine .chk (by ((try simp only [evE, liE, letsOf, letU, snd]); (try simp only [cmE])); omega) (.chk (by ((try simp only [evE, liE, letsOf, letU, snd]); (try simp only [cmE])); omega) (.chk (by ((try simp only [evE, liE, letsOf, letU, snd]); (try simp only [cmE])); omega) (.chk ?_ (.callV (c_wordEqual (C.from r).p (A.from n).p (C.from r).cap (A.from n).cap (C.from r).w (A.from n).w (by simp [WD.from]; omega)) (fun g => ⟨WordAt.from (hC.mono g.R) hlc r, WordAt.from (hA.mono g.R) hla n⟩) (.env (by (try simp only [liE, letsOf, letU, snd, List.append_nil]); rfl) (.again rfl ?_)) (hargs := ?_)))))
    · show (bif cm .leq 0 (ar .sub .i64 (C.w.length : Int) (if (C.w.length : Int) < (A.w.length : Int) - (n : Int) then (C.w.length : Int) else (A.w.length : Int) - (n : Int))) then (bif cm .leq (ar .sub .i64 (C.w.length : Int) (if (C.w.length : Int) < (A.w.length : Int) - (n : Int) then (C.w.length : Int) else (A.w.length : Int) - (n : Int))) (C.w.length : Int) then cm .leq (C.w.length : Int) (C.cap : Int) else false) else false) = true
      rw [er]
      simp only [cm, pick_and, Bool.and_eq_true, decide_eq_true_eq]; omega
    · show [U.b (decide ((C.from r).w = (A.from n).w))] = _
      congr 2
      rw [Bool.eq_iff_iff, hfit, decide_eq_true_eq]
      exact ⟨fun h => ⟨by omega, h⟩, fun h => h.2⟩
    · simp only [SV.dens]
      rw [den_from (x := C) (n := r) rfl rfl (by show ar .sub .i64 (C.w.length : Int) (if (C.w.length : Int) < (A.w.length : Int) - (n : Int) then (C.w.length : Int) else (A.w.length : Int) - (n : Int)) = _; exact er) rfl, den_from (x := A) (n := n) rfl rfl rfl rfl]
      rfl
  · ((try simp only [evE, liE, letsOf, letU, snd] at h1); (try simp only [cmE] at h1))
    show [U.b false] = _
    cases hs : (solveW A.w B.w C.w).isSome with
    | false => rfl
    | true => have := (hfit.1 hs).1; omega
  rintro _ m _ rfl
  refine .env (by (try simp only [liE, letsOf, letU, snd, List.append_nil]); rfl) (.callM (c_Solve A B C ha hb hc oa ob oc) rfl rfl (fun g => ⟨hA.mono g.R, hB.mono g.R, hC.mono g.R, hV.mono g.R⟩) ?_)
  rintro v mq hf ⟨q, cq, rfl, hr⟩
  have hr := hr.joinR (m := m) fun b hb => (hf b hb).1
  rw [h1w] at hr ⊢
  clear hf h1w
  generalize m.join mq = m1 at hr ⊢
  cases hs : solveW A.w B.w C.w with
  | none =>
    rw [hs] at hr
    refine ⟨[.p q, .i (0 : Nat), .i cq, .b false, .i 0], uOk_of rfl, (res3_fresh _ _ _ _ _ _ _).symm, .env (by (try simp only [liE, letsOf, letU, snd, List.append_nil]); rfl) ?_⟩
    refine .no rfl (.no rfl (.join (fun us _ => us = [.b true]) (.chk rfl (.yes rfl (.callV c_works (fun g => hV.mono g.R) (.again rfl rfl)))) ?_))
    rintro _ _ _ rfl
    exact .ret rfl rfl
  | some d =>
    rw [hs] at hr hfit
    have hd := hfit.1 rfl
    have hdd : d = (C.upto (C.w.length - (A.w.length - n))).w ++ (B.from n).w := by
      rw [hsol] at hs
      unfold applyE at hs
      rw [hX, if_pos hd] at hs
      cases hs; rfl
    obtain ⟨r, hrr⟩ : ∃ r, r = C.w.length - (A.w.length - n) := ⟨_, rfl⟩
    rw [← hrr] at hd hdd
    have hdl : d.length = r + (B.w.length - n) := by rw [hdd, List.length_append, hY]; simp [WD.upto]; omega
    have er : ar .sub .i64 (C.w.length : Int) ((A.w.length : Int) - (n : Int)) = (r : Int) := by rw [subI (by omega) (by omega)]; omega
    by_cases h32 : d.length > 32
    · rw [Option.getD_some, if_pos h32] at hr ⊢
      refine ⟨[.p q, .i (0 : Nat), .i cq, .b false, .i 11], uOk_of rfl, (res3_fresh _ _ _ _ _ _ _).symm, .env (by (try simp only [liE, letsOf, letU, snd, List.append_nil]); rfl) ?_⟩
      refine .yes rfl (.chk (by ((try simp only [evE, liE, letsOf, letU, snd]); (try simp only [cmE])); omega) (.chk (by ((try simp only [evE, liE, letsOf, letU, snd]); (try simp only [cmE])); omega) (.chk (by ((try simp only [evE, liE, letsOf, letU, snd]); (try simp only [cmE])); omega) (.yes ?_ (.join (fun us _ => us = [.b true]) (.yes rfl (.chk rfl (.yes rfl (.callV c_works (fun g => hV.mono g.R) (.again rfl rfl))))) ?_)))))
      · show cm .gtr (ar .add .i64 (ar .sub .i64 (C.w.length : Int) ((A.w.length : Int) - (n : Int))) ((B.w.length : Int) - (n : Int))) 32 = true
        rw [er, addI (by omega) (by omega)]
        simp only [cm, decide_eq_true_eq]; omega
      rintro _ _ _ rfl
      exact .ret rfl rfl
    · rw [Option.getD_some, if_neg h32] at hr ⊢
      refine ⟨[.p q, .i (d.length : Nat), .i cq, .b true, .i 0], uOk_of rfl, (res3_fresh _ _ _ _ _ _ _).symm, .env (by (try simp only [liE, letsOf, letU, snd, List.append_nil]); rfl) ?_⟩
      refine .yes rfl (.chk (by ((try simp only [evE, liE, letsOf, letU, snd]); (try simp only [cmE])); omega) (.chk (by ((try simp only [evE, liE, letsOf, letU, snd]); (try simp only [cmE])); omega) (.chk (by ((try simp only [evE, liE, letsOf, letU, snd]); (try simp only [cmE])); omega) (.no ?_ (.no rfl (.join (fun us _ => us = [.b true]) (.alloc fun b1 => .chk (by ((try simp only [evE, liE, letsOf, letU, snd]); (try simp only [cmE])); omega) (.chk (by ((try simp only [evE, liE, letsOf, letU, snd]); (try simp only [cmE])); omega) (.chk ?_ ?_))) ?_))))))
      · show cm .gtr (ar .add .i64 (ar .sub .i64 (C.w.length : Int) ((A.w.length : Int) - (n : Int))) ((B.w.length : Int) - (n : Int))) 32 = false
        rw [er, addI (by omega) (by omega)]
        simp only [cm, decide_eq_false_iff_not]; omega
      · show (bif cm .leq 0 (ar .sub .i64 (C.w.length : Int) ((A.w.length : Int) - (n : Int))) then cm .leq (ar .sub .i64 (C.w.length : Int) ((A.w.length : Int) - (n : Int))) (C.cap : Int) else false) = true
        rw [er]
        simp only [cm, pick_and, Bool.and_eq_true, decide_eq_true_eq]; omega
      · have hul : (C.upto r).w.length = r := by simp [WD.upto]; omega
        refine .cat2 (b0 := b1) (C.upto r) (B.from n) el22 (fun g => WordAt.upto (hC.mono g.R) r) (fun hV => WordAt.from (hB.mono hV) hlb n) (WD.upto_ok oc r) oy (by omega) (by omega) (fun q1 k1 q2 k2 m2 hr2 hk2 => ?_) (hxv := den_upto (x := C) (n := r) rfl rfl (by show ar .sub .i64 (C.w.length : Int) ((A.w.length : Int) - (n : Int)) = _; exact er) (by omega)) (hyv := fun _ _ => den_from (x := B) (n := n) rfl rfl rfl rfl)
        have hr1 := hr.keep hk2
        rw [← hdd] at hr2 ⊢
        refine .env (by (try simp only [liE, letsOf, letU, snd, List.append_nil]); rfl) (.callV (c_wordEqual q q2 cq k2 d d (by omega)) (fun g => ⟨hr1.reads g, hr2.reads g⟩) (.env (by (try simp only [liE, letsOf, letU, snd, List.append_nil]); rfl) (.yes ?_ (.callV c_works (fun g => hV.mono g.R) (.again rfl rfl)))))
        rfl
      rintro _ _ _ rfl
      exact .ret rfl rfl
end Go.Proofs.YtpbbnmjkbfbelaaDoor
