/- Chapter 30: the two kinds of changes, applied. -/
import Derived.Test.YtpbbnmjkbfbelaaDoorJd
set_option linter.unusedSimpArgs false
set_option linter.unusedVariables false
namespace Go.Proofs.YtpbbnmjkbfbelaaDoor
open Go Go.Sy Go.RowKit
theorem c_E2 (X Y C : WD) (ox : X.ok) (oy : Y.ok) (oc : C.ok) (lx : X.w.length < 2 ^ 38) (ly : Y.w.length < 2 ^ 38) (lc : C.w.length < 2 ^ 38) : FnM Tryd.prog n_analogy_ending_2 [X.v, Y.v, C.v] (fun R => WordAt R X.p X.w ∧ WordAt R Y.p Y.w ∧ WordAt R C.p C.w) fun v mq _ => Opt 31 mq v (applyE X.w Y.w C.w) := by
  refine FnM.of S_analogy_ending_2 mx [.p X.p, .i X.w.length, .i X.cap, .p Y.p, .i Y.w.length, .i Y.cap, .p C.p, .i C.w.length, .i C.cap] rfl rfl fun c hp => .chk (by ((try simp only [evE, liE, letsOf, letU, snd]); (try simp only [cmE])); omega) (.chk (by ((try simp only [evE, liE, letsOf, letU, snd]); (try simp only [cmE])); omega) (.ite (fun h1 => .ret rfl ?_) (fun h1 => ?_)))
  all_goals
    have es : ar .sub .i64 (C.w.length : Int) (X.w.length : Int) = (C.w.length : Int) - X.w.length := subI (by omega) (by omega)
  · replace h1 : cm .lss (ar .sub .i64 (C.w.length : Int) (X.w.length : Int)) 0 = true := h1
    rw [es] at h1
    simp only [cm, decide_eq_true_eq] at h1
    have : applyE X.w Y.w C.w = none := by unfold applyE; rw [if_neg (by omega)]
    rw [this]; exact Opt.none _ _
  replace h1 : cm .lss (ar .sub .i64 (C.w.length : Int) (X.w.length : Int)) 0 = false := h1
  rw [es] at h1
  simp only [cm, decide_eq_false_iff_not] at h1
  have hcap := oc.le
  obtain ⟨n, hn⟩ : ∃ n, n = C.w.length - X.w.length := ⟨_, rfl⟩
  have en : ar .sub .i64 (C.w.length : Int) (X.w.length : Int) = (n : Int) := by rw [es]; omega
  have hnl : n ≤ C.w.length := by omega
  have hfl : (C.from n).w.length ≤ C.w.length := by simp [WD.from]
  refine .chk ?_ (.callV (c_wordEqual (C.from n).p X.p (C.from n).cap X.cap (C.from n).w X.w (by omega)) (fun g => ⟨WordAt.from (hp.2.2.mono g.R) oc.le n, hp.1.mono g.R⟩) ?_ (hargs := ?_))
  · show (bif cm .leq 0 (ar .sub .i64 (C.w.length : Int) (X.w.length : Int)) then (bif cm .leq (ar .sub .i64 (C.w.length : Int) (X.w.length : Int)) (C.w.length : Int) then cm .leq (C.w.length : Int) (C.cap : Int) else false) else false) = true
    rw [en]
    simp only [cm, pick_and, Bool.and_eq_true, decide_eq_true_eq]; omega
  · refine .env (by (try simp only [liE, letsOf, letU, snd, List.append_nil]); rfl) (.ite (fun h2 => .ret rfl ?_) (fun h2 => ?_))
    · replace h2 : (!decide ((C.from n).w = X.w)) = true := h2
      have : applyE X.w Y.w C.w = none := by
        unfold applyE
        rw [if_neg]
        rintro ⟨_, q⟩
        rw [← hn] at q
        simp [WD.from, q] at h2
      rw [this]; exact Opt.none _ _
    · replace h2 : (!decide ((C.from n).w = X.w)) = false := h2
      rw [Bool.not_eq_false', decide_eq_true_eq] at h2
      replace h2 : C.w.drop n = X.w := h2
      have happ : applyE X.w Y.w C.w = some (C.w.take n ++ Y.w) := by
        unfold applyE
        rw [← hn, if_pos ⟨by omega, h2⟩]
      have hcat : cat [C.upto n, Y] = C.w.take n ++ Y.w := by simp [cat, WD.upto]
      refine .chk ?_ (.alloc fun b0 => .callM (c_concat (some ⟨b0, 0, none⟩) 2 [C.upto n, Y] ?_ (by simp) ?_) rfl rfl (fun g => ⟨g.cells (j := 0) rfl rfl ?_, ?_⟩) ?_)
      · show (bif cm .leq 0 (ar .sub .i64 (C.w.length : Int) (X.w.length : Int)) then cm .leq (ar .sub .i64 (C.w.length : Int) (X.w.length : Int)) (C.cap : Int) else false) = true
        rw [en]
        simp only [cm, pick_and, Bool.and_eq_true, decide_eq_true_eq]; omega
      · simp only [List.mem_cons, List.not_mem_nil, or_false]
        rintro x (rfl | rfl)
        · exact WD.upto_ok oc n
        · exact oy
      · rw [hcat]; simp; omega
      · simp only [SV.dens]
        rw [den_upto (x := C) (n := n) rfl rfl (by show ar .sub .i64 (C.w.length : Int) (X.w.length : Int) = _; exact en) hnl]; rfl
      · simp only [List.mem_cons, List.not_mem_nil, or_false]
        rintro x (rfl | rfl)
        · exact WordAt.upto (hp.2.2.mono g.R) n
        · exact hp.2.1.mono g.R
      · rintro v mq hf ⟨q, cq, rfl, hr⟩
        rw [hcat] at hr ⊢
        refine ⟨[.p q, .i _, .i cq], ⟨_, _, _, rfl⟩, (slv_fresh _ _ _ _ _).symm, .env (by (try simp only [liE, letsOf, letU, snd, List.append_nil]); rfl) (.ret rfl ?_)⟩
        rw [happ]
        exact ⟨q, cq, rfl, .of (hr.joinR fun b hb => (hf b hb).1)⟩
  · simp only [SV.dens]
    rw [den_from (x := C) (n := n) rfl rfl (by show ar .sub .i64 (C.w.length : Int) (X.w.length : Int) = _; exact en) rfl]
    rfl
theorem c_F2 (X Y C : WD) (ox : X.ok) (oy : Y.ok) (oc : C.ok) (lx : X.w.length < 2 ^ 38) (ly : Y.w.length < 2 ^ 38) (lc : C.w.length < 2 ^ 38) : FnM Tryd.prog n_analogy_beginning_2 [X.v, Y.v, C.v] (fun R => WordAt R X.p X.w ∧ WordAt R Y.p Y.w ∧ WordAt R C.p C.w) fun v mq _ => Opt 31 mq v (applyF X.w Y.w C.w) := by
  refine FnM.of S_analogy_beginning_2 mx [.p X.p, .i X.w.length, .i X.cap, .p Y.p, .i Y.w.length, .i Y.cap, .p C.p, .i C.w.length, .i C.cap] rfl rfl fun c hp => .chk (by ((try simp only [evE, liE, letsOf, letU, snd]); (try simp only [cmE])); omega) (.chk (by ((try simp only [evE, liE, letsOf, letU, snd]); (try simp only [cmE])); omega) (.ite (fun h1 => .ret rfl ?_) (fun h1 => ?_)))
  · ((try simp only [evE, liE, letsOf, letU, snd] at h1); (try simp only [cmE] at h1))
    have : applyF X.w Y.w C.w = none := by unfold applyF; rw [if_neg (by omega)]
    rw [this]; exact Opt.none _ _
  ((try simp only [evE, liE, letsOf, letU, snd] at h1); (try simp only [cmE] at h1))
  have hcap := oc.le
  have hnl : X.w.length ≤ C.w.length := by omega
  have hul : (C.upto X.w.length).w.length ≤ C.w.length := by simp [WD.upto]; omega
  refine .chk (by ((try simp only [evE, liE, letsOf, letU, snd]); (try simp only [cmE])); omega) (.chk (by ((try simp only [evE, liE, letsOf, letU, snd]); (try simp only [cmE])); omega) (.callV (c_wordEqual (C.upto X.w.length).p X.p (C.upto X.w.length).cap X.cap (C.upto X.w.length).w X.w (by omega)) (fun g => ⟨WordAt.upto (hp.2.2.mono g.R) _, hp.1.mono g.R⟩) ?_ (hargs := ?_)))
  · refine .env (by (try simp only [liE, letsOf, letU, snd, List.append_nil]); rfl) (.ite (fun h2 => .ret rfl ?_) (fun h2 => ?_))
    · replace h2 : (!decide ((C.upto X.w.length).w = X.w)) = true := h2
      have : applyF X.w Y.w C.w = none := by
        unfold applyF
        rw [if_neg]
        rintro ⟨_, q⟩
        simp [WD.upto, q] at h2
      rw [this]; exact Opt.none _ _
    · replace h2 : (!decide ((C.upto X.w.length).w = X.w)) = false := h2
      rw [Bool.not_eq_false', decide_eq_true_eq] at h2
      replace h2 : C.w.take X.w.length = X.w := h2
      have happ : applyF X.w Y.w C.w = some (Y.w ++ C.w.drop X.w.length) := by
        unfold applyF
        rw [if_pos ⟨by omega, h2⟩]
      have hcat : cat [Y, C.from X.w.length] = Y.w ++ C.w.drop X.w.length := by simp [cat, WD.from]
      refine .chk (by ((try simp only [evE, liE, letsOf, letU, snd]); (try simp only [cmE])); omega) (.chk (by ((try simp only [evE, liE, letsOf, letU, snd]); (try simp only [cmE])); omega) (.alloc fun b0 => .callM (c_concat (some ⟨b0, 0, none⟩) 2 [Y, C.from X.w.length] ?_ (by simp) ?_) rfl rfl (fun g => ⟨g.cells (j := 0) rfl rfl ?_, ?_⟩) ?_))
      · simp only [List.mem_cons, List.not_mem_nil, or_false]
        rintro x (rfl | rfl)
        · exact oy
        · exact WD.from_ok oc hnl
      · rw [hcat]; simp; omega
      · simp only [SV.dens]
        rw [den_from (x := C) (n := X.w.length) rfl rfl rfl rfl]; rfl
      · simp only [List.mem_cons, List.not_mem_nil, or_false]
        rintro x (rfl | rfl)
        · exact hp.2.1.mono g.R
        · exact WordAt.from (hp.2.2.mono g.R) oc.le _
      · rintro v mq hf ⟨q, cq, rfl, hr⟩
        rw [hcat] at hr ⊢
        refine ⟨[.p q, .i _, .i cq], ⟨_, _, _, rfl⟩, (slv_fresh _ _ _ _ _).symm, .env (by (try simp only [liE, letsOf, letU, snd, List.append_nil]); rfl) (.ret rfl ?_)⟩
        rw [happ]
        exact ⟨q, cq, rfl, .of (hr.joinR fun b hb => (hf b hb).1)⟩
  · simp only [SV.dens]
    rw [den_upto (x := C) (n := X.w.length) rfl rfl rfl hnl]
    rfl
theorem c_F1 (A B : WD) (oa : A.ok) (ob : B.ok) (la : A.w.length < 2 ^ 38) (lb : B.w.length < 2 ^ 38) : FnM Tryd.prog n_analogy_beginning_1 [A.v, B.v] (fun R => WordAt R A.p A.w ∧ WordAt R B.p B.w) fun v _ _ => v = .tuple #[(A.upto (A.w.length - csl A.w B.w)).v, (B.upto (B.w.length - csl A.w B.w)).v] := by
  refine FnM.of S_analogy_beginning_1 mx [.p A.p, .i A.w.length, .i A.cap, .p B.p, .i B.w.length, .i B.cap] rfl rfl fun c hp => .chk (by ((try simp only [evE, liE, letsOf, letU, snd]); (try simp only [cmE])); omega) (.chk (by ((try simp only [evE, liE, letsOf, letU, snd]); (try simp only [cmE])); omega) ?_)
  have hca := oa.le; have hcb := ob.le
  refine .loop (fun n us _ => ∃ i k : Nat, us = [.i i, .i k] ∧ n = i ∧ i ≤ A.w.length ∧ k ≤ B.w.length ∧ A.w.length - i = B.w.length - k ∧ csl A.w B.w = (A.w.length - i) + csl (A.w.take i) (B.w.take k)) A.w.length ⟨A.w.length, B.w.length, rfl, rfl, Nat.le_refl _, Nat.le_refl _, by omega, by simp⟩ ?_
  rintro n _ m _ ⟨i, k, rfl, rfl, hi, hk, hd, hc⟩
  have fin : csl (A.w.take n) (B.w.take k) = 0 → DenM Tryd.prog (outM c fun v _ => v = .tuple #[(A.upto (A.w.length - csl A.w B.w)).v, (B.upto (B.w.length - csl A.w B.w)).v]) (fun _ _ _ => False) (.chk (.pick (.cmp .leq (.lit 0) (.var 6)) (.cmp .leq (.var 6) (.var 2)) (.lit false)) (.chk (.pick (.cmp .leq (.lit 0) (.var 7)) (.cmp .leq (.var 7) (.var 5)) (.lit false))
      (.ret (.tup [(.sl 0 (.ifeq (.var 2) (.lit 0) (.lit 0) (.lit 0)) (.var 6) (.var 2)), (.sl 3 (.ifeq (.var 5) (.lit 0) (.lit 0) (.lit 0)) (.var 7) (.var 5))]) []))) [] [.p A.p, .i A.w.length, .i A.cap, .p B.p, .i B.w.length, .i B.cap, .i n, .i k] c m ([].take 0 ++ [inM c fun us' m'' => ∃ n', n' < n ∧ ∃ i k : Nat, us' = [.i i, .i k] ∧ n' = i ∧ i ≤ A.w.length ∧ k ≤ B.w.length ∧ A.w.length - i = B.w.length - k ∧ csl A.w B.w = (A.w.length - i) + csl (A.w.take i) (B.w.take k)]) := fun h0 => by
    have e1 : A.w.length - csl A.w B.w = n := by omega
    have e2 : B.w.length - csl A.w B.w = k := by omega
    rw [e1, e2]
    refine .chk (by ((try simp only [evE, liE, letsOf, letU, snd]); (try simp only [cmE])); omega) (.chk (by ((try simp only [evE, liE, letsOf, letU, snd]); (try simp only [cmE])); omega) (.ret ?_ rfl))
    have q1 := den_upto (L := []) (ρ := [.p A.p, .i A.w.length, .i A.cap, .p B.p, .i B.w.length, .i B.cap, .i n, .i k]) (i := 0) (C := .var 2) (N := .var 6) (x := A) (n := n) rfl rfl rfl hi
    have q2 := den_upto (L := []) (ρ := [.p A.p, .i A.w.length, .i A.cap, .p B.p, .i B.w.length, .i B.cap, .i n, .i k]) (i := 3) (C := .var 5) (N := .var 7) (x := B) (n := k) rfl rfl rfl hk
    simp only [SV.den, SV.dens] at q1 q2 ⊢
    rw [q1, q2]
  refine .env rfl (.ite (fun h1 => ?_) (fun h1 => fin (csl_zero ?_))) <;> ((try simp only [evE, liE, letsOf, letU, snd] at h1); (try simp only [cmE] at h1))
  · obtain ⟨i, rfl⟩ : ∃ i, n = i + 1 := ⟨n - 1, by omega⟩
    obtain ⟨j, rfl⟩ : ∃ j, k = j + 1 := ⟨k - 1, by omega⟩
    have e1 : ar .sub .i64 ((i + 1 : Nat) : Int) 1 = (i : Int) := by rw [subI (by omega) (by omega)]; omega
    have e2 : ar .sub .i64 ((j + 1 : Nat) : Int) 1 = (j : Int) := by rw [subI (by omega) (by omega)]; omega
    rw [csl_take (by omega) (by omega)] at hc
    refine .loadW A.w i (by omega) (fun g => hp.1.mono g.R) (.env (by (try simp only [liE, letsOf, letU, snd, List.append_nil]); rfl) (.loadW B.w j (by omega) (fun g => hp.2.mono g.R) (.env (by (try simp only [liE, letsOf, letU, snd, List.append_nil]); rfl) (.ite (fun h2 => ?_) (fun h2 => ?_))) (by show ar .sub .i64 _ _ = _; exact e2) rfl)) (by show ar .sub .i64 _ _ = _; exact e1) rfl <;> ((try simp only [evE, liE, letsOf, letU, snd] at h2); (try simp only [cmE] at h2))
    · rw [if_pos (snd_eq.1 h2)] at hc
      refine .again rfl ⟨i, by omega, i, j, ?_, rfl, by omega, by omega, by omega, by omega⟩
      (simp only [evE, liE, letsOf, letU, snd, Sh.uss, Sh.us, atAddr, map_add0, List.append_nil]); rw [e1, e2]
    · have hne : ¬ A.w[i] = B.w[j] := fun e => by have := snd_eq.2 e; simp [this.1, this.2] at h2
      have h0 : csl (A.w.take (i + 1)) (B.w.take (j + 1)) = 0 := by rw [csl_take (by omega) (by omega), if_neg hne]
      have q := fin h0
      rw [if_neg hne] at hc
      have e1 : A.w.length - csl A.w B.w = i + 1 := by omega
      have e2 : B.w.length - csl A.w B.w = j + 1 := by omega
      rw [e1, e2]
      refine .chk (by ((try simp only [evE, liE, letsOf, letU, snd]); (try simp only [cmE])); omega) (.chk (by ((try simp only [evE, liE, letsOf, letU, snd]); (try simp only [cmE])); omega) (.ret ?_ rfl))
      have q1 := den_upto (L := []) (ρ := [.p A.p, .i A.w.length, .i A.cap, .p B.p, .i B.w.length, .i B.cap, .i (i + 1 : Nat), .i (j + 1 : Nat), .i A.w[i].1, .i A.w[i].2, .i B.w[j].1, .i B.w[j].2]) (i := 0) (C := .var 2) (N := .var 6) (x := A) (n := i + 1) rfl rfl rfl hi
      have q2 := den_upto (L := []) (ρ := [.p A.p, .i A.w.length, .i A.cap, .p B.p, .i B.w.length, .i B.cap, .i (i + 1 : Nat), .i (j + 1 : Nat), .i A.w[i].1, .i A.w[i].2, .i B.w[j].1, .i B.w[j].2]) (i := 3) (C := .var 5) (N := .var 7) (x := B) (n := j + 1) rfl rfl rfl hk
      simp only [SV.den, SV.dens] at q1 q2 ⊢
      rw [q1, q2]
  · rcases h1 with h | h
    · exact .inl (by omega)
    · exact .inr (by omega)
abbrev fE1 : Value := .func (.func n_analogy_ending_1) #[] #[]
abbrev fE2 : Value := .func (.func n_analogy_ending_2) #[] #[]
theorem c_chgE (A B C : WD) (oa : A.ok) (ob : B.ok) (oc : C.ok) (la : A.w.length < 2 ^ 38) (lb : B.w.length < 2 ^ 38) (lc : C.w.length < 2 ^ 38) : FnM Tryd.prog n__analogy_change__solve [.agg #[fE1, fE2], A.v, B.v, C.v] (fun R => WordAt R A.p A.w ∧ WordAt R B.p B.w ∧ WordAt R C.p C.w) fun v mq _ => Opt 31 mq v (solveW A.w B.w C.w) := by
  refine FnM.of S__analogy_change__solve mx [.v fE1, .v fE2, .p A.p, .i A.w.length, .i A.cap, .p B.p, .i B.w.length, .i B.cap, .p C.p, .i C.w.length, .i C.cap] rfl rfl fun c hp => .alloc fun b0 => ?_
  refine .callvM (FnV.of0 (by kernel_rfl) (c_E1 A B oa ob la lb)) rfl rfl rfl (fun g => ⟨hp.1.mono g.R, hp.2.1.mono g.R⟩) ?_
  rintro v mq hf rfl
  have hXe : (A.from (cpl A.w B.w)).w = A.w.drop (cpl A.w B.w) := rfl
  have hYe : (B.from (cpl A.w B.w)).w = B.w.drop (cpl A.w B.w) := rfl
  have hs : solveW A.w B.w C.w = applyE (A.from (cpl A.w B.w)).w (B.from (cpl A.w B.w)).w C.w := rfl
  have hx : WordAt c.R (A.from (cpl A.w B.w)).p (A.from (cpl A.w B.w)).w := WordAt.from hp.1 oa.le _
  have hy : WordAt c.R (B.from (cpl A.w B.w)).p (B.from (cpl A.w B.w)).w := WordAt.from hp.2.1 ob.le _
  have ox : (A.from (cpl A.w B.w)).ok := WD.from_ok oa (cpl_le _ _).1
  have oy : (B.from (cpl A.w B.w)).ok := WD.from_ok ob (cpl_le _ _).2
  have lX : (A.from (cpl A.w B.w)).w.length < 2 ^ 38 := by rw [hXe]; simp; omega
  have lY : (B.from (cpl A.w B.w)).w.length < 2 ^ 38 := by rw [hYe]; simp; omega
  rw [hs]
  generalize A.from (cpl A.w B.w) = X at *
  generalize B.from (cpl A.w B.w) = Y at *
  refine ⟨[.p X.p, .i X.w.length, .i X.cap, .p Y.p, .i Y.w.length, .i Y.cap], uOk_of rfl, (two_fresh _ _ _ _ _ _ _ _).symm, ?_⟩
  refine .env (by (try simp only [liE, letsOf, letU, snd, List.append_nil]); rfl) (.callvM (FnV.of0 (by kernel_rfl) (c_E2 X Y C ox oy oc lX lY lc)) rfl rfl rfl (fun g => ⟨hx.mono g.R, hy.mono g.R, hp.2.2.mono g.R⟩) ?_)
  rintro v mq2 hf2 ⟨q, cq, rfl, hr⟩
  refine ⟨[.p q, .i (_ : Nat), .i (cq : Nat), .b _], uOk_of rfl, (opt_fresh _ _ _ _ _ _).symm, .env (by (try simp only [liE, letsOf, letU, snd, List.append_nil]); rfl) (.ret rfl ⟨q, cq, rfl, hr.joinR fun b hb => (hf2 b hb).1⟩)⟩
abbrev fF1 : Value := .func (.func n_analogy_beginning_1) #[] #[]
abbrev fF2 : Value := .func (.func n_analogy_beginning_2) #[] #[]
theorem c_chgF (A B C : WD) (oa : A.ok) (ob : B.ok) (oc : C.ok) (la : A.w.length < 2 ^ 38) (lb : B.w.length < 2 ^ 38) (lc : C.w.length < 2 ^ 38) : FnM Tryd.prog n__analogy_change__solve [.agg #[fF1, fF2], A.v, B.v, C.v] (fun R => WordAt R A.p A.w ∧ WordAt R B.p B.w ∧ WordAt R C.p C.w) fun v mq _ => Opt 31 mq v (frontW A.w B.w C.w) := by
  refine FnM.of S__analogy_change__solve mx [.v fF1, .v fF2, .p A.p, .i A.w.length, .i A.cap, .p B.p, .i B.w.length, .i B.cap, .p C.p, .i C.w.length, .i C.cap] rfl rfl fun c hp => .alloc fun b0 => ?_
  refine .callvM (FnV.of0 (by kernel_rfl) (c_F1 A B oa ob la lb)) rfl rfl rfl (fun g => ⟨hp.1.mono g.R, hp.2.1.mono g.R⟩) ?_
  rintro v mq hf rfl
  have hXe : (A.upto (A.w.length - csl A.w B.w)).w = A.w.take (A.w.length - csl A.w B.w) := rfl
  have hYe : (B.upto (B.w.length - csl A.w B.w)).w = B.w.take (B.w.length - csl A.w B.w) := rfl
  have hs : frontW A.w B.w C.w = applyF (A.upto (A.w.length - csl A.w B.w)).w (B.upto (B.w.length - csl A.w B.w)).w C.w := rfl
  have hx : WordAt c.R (A.upto (A.w.length - csl A.w B.w)).p (A.upto (A.w.length - csl A.w B.w)).w := WordAt.upto hp.1 _
  have hy : WordAt c.R (B.upto (B.w.length - csl A.w B.w)).p (B.upto (B.w.length - csl A.w B.w)).w := WordAt.upto hp.2.1 _
  have ox : (A.upto (A.w.length - csl A.w B.w)).ok := WD.upto_ok oa _
  have oy : (B.upto (B.w.length - csl A.w B.w)).ok := WD.upto_ok ob _
  have lX : (A.upto (A.w.length - csl A.w B.w)).w.length < 2 ^ 38 := by rw [hXe]; simp; omega
  have lY : (B.upto (B.w.length - csl A.w B.w)).w.length < 2 ^ 38 := by rw [hYe]; simp; omega
  rw [hs]
  generalize A.upto (A.w.length - csl A.w B.w) = X at *
  generalize B.upto (B.w.length - csl A.w B.w) = Y at *
  refine ⟨[.p X.p, .i X.w.length, .i X.cap, .p Y.p, .i Y.w.length, .i Y.cap], uOk_of rfl, (two_fresh _ _ _ _ _ _ _ _).symm, ?_⟩
  refine .env (by (try simp only [liE, letsOf, letU, snd, List.append_nil]); rfl) (.callvM (FnV.of0 (by kernel_rfl) (c_F2 X Y C ox oy oc lX lY lc)) rfl rfl rfl (fun g => ⟨hx.mono g.R, hy.mono g.R, hp.2.2.mono g.R⟩) ?_)
  rintro v mq2 hf2 ⟨q, cq, rfl, hr⟩
  refine ⟨[.p q, .i (_ : Nat), .i (cq : Nat), .b _], uOk_of rfl, (opt_fresh _ _ _ _ _ _).symm, .env (by (try simp only [liE, letsOf, letU, snd, List.append_nil]); rfl) (.ret rfl ⟨q, cq, rfl, hr.joinR fun b hb => (hf2 b hb).1⟩)⟩
end Go.Proofs.YtpbbnmjkbfbelaaDoor
