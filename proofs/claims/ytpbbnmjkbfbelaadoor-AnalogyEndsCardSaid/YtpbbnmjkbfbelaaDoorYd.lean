/- Chapter 30: the laws AnalogyMirror and AnalogyEnds. Printed by laws30.py. -/
import Derived.Test.YtpbbnmjkbfbelaaDoorYb
import Derived.Test.YtpbbnmjkbfbelaaDoorTcMirror
import Derived.Test.YtpbbnmjkbfbelaaDoorTcEnds
set_option linter.unusedSimpArgs false
set_option linter.unusedVariables false
namespace Go.Proofs.YtpbbnmjkbfbelaaDoor
open Go Go.Sy Go.RowKit
theorem c_wordReverse' (X : WD) (hw : Wok X.w) (ox : X.ok) (h : checkW X.w = 0) : FnM Tryd.prog n_word_Reverse [X.v] (fun R => WordAt R X.p X.w) fun v mq _ => ∃ q cq, v = .tuple #[slv q X.w.reverse.length cq, .int .i64 0] ∧ RowW mq 31 q cq X.w.reverse :=
  (c_wordReverse X hw ox).mono (fun _ h => h) fun v mq _ hq => by
    rw [if_pos h] at hq
    rw [List.length_reverse]; exact hq
theorem c_join (X Y : WD) (ox : X.ok) (oy : Y.ok) (lx : X.w.length < 2 ^ 38) (ly : Y.w.length < 2 ^ 38) : FnM Tryd.prog n_law30_join [X.v, Y.v] (fun R => WordAt R X.p X.w ∧ WordAt R Y.p Y.w) fun v mq _ => ∃ q cq, v = slv q (X.w ++ Y.w).length cq ∧ RowW mq 31 q cq (X.w ++ Y.w) := by
  refine FnM.of S_law30_join mx [.p X.p, .i X.w.length, .i X.cap, .p Y.p, .i Y.w.length, .i Y.cap] rfl rfl fun c hp => .alloc fun b0 => ?_
  refine .cat2 (b0 := b0) X Y el22 (fun g => hp.1.mono g.R) (fun hV => hp.2.mono hV) ox oy lx ly fun q1 k1 q cq m' hr _ => .env (by (try simp only [liE, letsOf, letU, snd, List.append_nil]); rfl) (.ret rfl ⟨q, cq, rfl, hr⟩)
theorem Wok.rev {w : List Snd} (h : Wok w) : Wok w.reverse := fun s hs => h s (List.mem_reverse.1 hs)
theorem Wok.app {a b : List Snd} (ha : Wok a) (hb : Wok b) : Wok (a ++ b) := fun s hs => (List.mem_append.1 hs).elim (ha s) (hb s)
theorem checkW_app {a b : List Snd} (ha : checkW a = 0) (hb : checkW b = 0) (hl : a.length + b.length ≤ 32) : checkW (a ++ b) = 0 := by
  rw [checkW_iff] at *
  exact ⟨by rw [List.length_append]; exact hl, ha.2.append hb.2⟩
theorem oneW_rev {a b c : List Snd} (ha : checkW a = 0) (hb : checkW b = 0) (hc : checkW c = 0) : oneW a.reverse b.reverse c.reverse (frontW a.reverse b.reverse c.reverse) = ((oneW a b c (solveW a b c)).1.reverse, (oneW a b c (solveW a b c)).2) := by
  rw [oneW_ok ha hb hc, oneW_ok (checkW_rev.2 ha) (checkW_rev.2 hb) (checkW_rev.2 hc), ← solve_rev, List.reverse_reverse, List.reverse_reverse, List.reverse_reverse]
  cases solveW a b c with
  | none => rfl
  | some d =>
    simp only [Option.map_some, Option.getD_some, List.length_reverse]
    split <;> rfl
theorem oneW_first {a b c : List Snd} (ha : checkW a = 0) (hb : checkW b = 0) (hc : checkW c = 0) (ob : Wok b) (oc : Wok c) : Wok (oneW a b c (solveW a b c)).1 ∧ checkW (oneW a b c (solveW a b c)).1 = 0 := by
  rw [oneW_ok ha hb hc]
  cases hs : solveW a b c with
  | none => exact ⟨fun s hs => by simp at hs, by decide⟩
  | some d =>
    have hr := solve_res hs
    simp only [Option.getD_some]
    split
    · exact ⟨fun s hs => by simp at hs, by decide⟩
    · exact ⟨fun s h => (resW_sub hr s h).elim (ob s) (oc s), checkW_iff.2 ⟨by simp only []; omega, resW_valid (checkW_iff.1 hb).2 (checkW_iff.1 hc).2 hr⟩⟩
set_option maxHeartbeats 1000000 in
theorem l_AnalogyMirror (A B C : WD) (ha : Wok A.w) (hb : Wok B.w) (hc : Wok C.w) (oa : A.ok) (ob : B.ok) (oc : C.ok) : RetP Tryd.prog n_law30_AnalogyMirror [A.v, B.v, C.v] (fun R => WordAt R A.p A.w ∧ WordAt R B.p B.w ∧ WordAt R C.p C.w ∧ VarsOk R) (.bool true) := by
  refine Fn.of S_law30_AnalogyMirror mx [.p A.p, .i A.w.length, .i A.cap, .p B.p, .i B.w.length, .i B.cap, .p C.p, .i C.w.length, .i C.cap] rfl rfl fun c hp => .alloc fun b0 => ?_
  obtain ⟨hA, hB, hC, hV⟩ := hp
  refine .callV (c_good (some ⟨b0, 0, none⟩) 3 [A, B, C] (by simp [ha, hb, hc]) (by simp)) (fun g => ⟨g.cells (j := 0) rfl rfl rfl, ?_⟩) (.env (by (try simp only [liE, letsOf, letU, snd, List.append_nil]); rfl) (.ite (fun h1 => .callV c_works (fun g => hV.mono g.R) (.ret rfl rfl)) (fun h1 => ?_)))
  · simp only [List.mem_cons, List.not_mem_nil, or_false]
    rintro x (rfl | rfl | rfl)
    · exact hA.mono g.R
    · exact hB.mono g.R
    · exact hC.mono g.R
  replace h1 : (!decide (checkL [A.w, B.w, C.w] = 0)) = false := h1
  simp only [Bool.not_eq_false', decide_eq_true_eq] at h1
  rw [show decide (checkL (List.map (fun x : WD => x.w) [A, B, C]) = 0) = true from decide_eq_true h1]
  rw [checkL_zero] at h1
  have ca := h1 A.w (by simp); have cb := h1 B.w (by simp); have cc := h1 C.w (by simp)
  have hrev := oneW_rev ca cb cc
  have hfst := oneW_first ca cb cc hb hc
  generalize hm0 : Mem.emp = m0
  clear hm0 h1
  refine .callM (c_wordReverse' A ha oa ca) rfl rfl (fun g => hA.mono g.R) ?_
  rintro v mq hfr ⟨q0, k0, rfl, r0⟩
  refine ⟨[.p q0, .i (A.w.reverse.length : Nat), .i k0, .i 0], uOk_of rfl, (tab_fresh _ _ _ _ _ _).symm, .env (by (try simp only [liE, letsOf, letU, snd, List.append_nil]); rfl) ?_⟩
  have h0 := r0.joinR (m := m0) fun b hb => (hfr b hb).1
  generalize m0.join mq = m1 at *
  clear hfr
  refine .callM (c_wordReverse' B hb ob cb) rfl rfl (fun g => hB.mono g.R) ?_
  rintro v mq hfr ⟨q1, k1, rfl, r1⟩
  refine ⟨[.p q1, .i (B.w.reverse.length : Nat), .i k1, .i 0], uOk_of rfl, (tab_fresh _ _ _ _ _ _).symm, .env (by (try simp only [liE, letsOf, letU, snd, List.append_nil]); rfl) ?_⟩
  replace h0 := h0.joinL (mq := mq)
  have h1 := r1.joinR (m := m1) fun b hb => (hfr b hb).1
  generalize m1.join mq = m2 at *
  clear hfr
  refine .callM (c_wordReverse' C hc oc cc) rfl rfl (fun g => hC.mono g.R) ?_
  rintro v mq hfr ⟨q2, k2, rfl, r2⟩
  refine ⟨[.p q2, .i (C.w.reverse.length : Nat), .i k2, .i 0], uOk_of rfl, (tab_fresh _ _ _ _ _ _).symm, .env (by (try simp only [liE, letsOf, letU, snd, List.append_nil]); rfl) ?_⟩
  replace h0 := h0.joinL (mq := mq)
  replace h1 := h1.joinL (mq := mq)
  have h2 := r2.joinR (m := m2) fun b hb => (hfr b hb).1
  generalize m2.join mq = m3 at *
  clear hfr
  refine .callM (c_Solve A B C ha hb hc oa ob oc) rfl rfl (fun g => ⟨hA.mono g.R, hB.mono g.R, hC.mono g.R, hV.mono g.R⟩) ?_
  rintro v mq hfr ⟨qs, ks, rfl, rs⟩
  generalize oneW A.w B.w C.w (solveW A.w B.w C.w) = z at *
  refine ⟨[.p qs, .i (z.1.length : Nat), .i ks, .b z.2.1, .i z.2.2], uOk_of rfl, (res3_fresh _ _ _ _ _ _ _).symm, .env (by (try simp only [liE, letsOf, letU, snd, List.append_nil]); rfl) ?_⟩
  replace h0 := h0.joinL (mq := mq)
  replace h1 := h1.joinL (mq := mq)
  replace h2 := h2.joinL (mq := mq)
  have hs := rs.joinR (m := m3) fun b hb => (hfr b hb).1
  generalize m3.join mq = m4 at *
  clear hfr
  refine .callM (c_Front ⟨q0, k0, A.w.reverse⟩ ⟨q1, k1, B.w.reverse⟩ ⟨q2, k2, C.w.reverse⟩ (Wok.rev ha) (Wok.rev hb) (Wok.rev hc) h0.ok h1.ok h2.ok) rfl rfl (fun g => ⟨h0.reads g, h1.reads g, h2.reads g, hV.mono g.R⟩) ?_
  rintro v mq hfr ⟨qf, kf, rfl, rf⟩
  simp only [] at rf ⊢
  rw [hrev] at rf ⊢
  refine ⟨[.p qf, .i (z.1.reverse.length : Nat), .i kf, .b z.2.1, .i z.2.2], uOk_of rfl, (res3_fresh _ _ _ _ _ _ _).symm, .env (by (try simp only [liE, letsOf, letU, snd, List.append_nil]); rfl) ?_⟩
  replace h0 := h0.joinL (mq := mq)
  replace h1 := h1.joinL (mq := mq)
  replace h2 := h2.joinL (mq := mq)
  replace hs := hs.joinL (mq := mq)
  have hf := rf.joinR (m := m4) fun b hb => (hfr b hb).1
  generalize m4.join mq = m5 at *
  clear hfr
  refine .no ?_ ?_
  · show (bif (bif (bif (bif cm .neq 0 0 then true else cm .neq 0 0) then true else cm .neq 0 0) then true else cm .neq z.2.2 z.2.2) then true else !(z.2.1 == z.2.1)) = false
    simp [cm]
  clear h0 h1 h2
  refine .callM (c_wordReverse' ⟨qf, kf, z.1.reverse⟩ (Wok.rev hfst.1) hf.ok (checkW_rev.2 hfst.2)) rfl rfl (fun g => hf.reads g) ?_
  rintro v mq hfr ⟨qb, kb, rfl, rb⟩
  simp only [List.reverse_reverse] at rb ⊢
  refine ⟨[.p qb, .i (z.1.length : Nat), .i kb, .i 0], uOk_of rfl, (tab_fresh _ _ _ _ _ _).symm, .env (by (try simp only [liE, letsOf, letU, snd, List.append_nil]); rfl) ?_⟩
  replace hs := hs.joinL (mq := mq)
  replace hf := hf.joinL (mq := mq)
  have hb' := rb.joinR (m := m5) fun b hb => (hfr b hb).1
  generalize m5.join mq = m6 at *
  clear hfr
  refine .join (fun us _ => us = [.b true]) (.yes rfl (.callV (c_wordEqual qs qb ks kb z.1 z.1 (by have := (checkW_iff.1 hfst.2).1; omega)) (fun g => ⟨hs.reads g, hb'.reads g⟩) (.env (by (try simp only [liE, letsOf, letU, snd, List.append_nil]); rfl) (.yes ?_ (.callV c_works (fun g => hV.mono g.R) (.again rfl rfl)))))) ?_
  · rfl
  rintro _ _ _ rfl
  exact .ret rfl rfl
set_option maxHeartbeats 2000000 in
theorem l_AnalogyEnds (P X Q Y : WD) (hp : Wok P.w) (hx : Wok X.w) (hq : Wok Q.w) (hy : Wok Y.w) (op : P.ok) (ox : X.ok) (oq : Q.ok) (oy : Y.ok) : RetP Tryd.prog n_law30_AnalogyEnds [P.v, X.v, Q.v, Y.v] (fun R => WordAt R P.p P.w ∧ WordAt R X.p X.w ∧ WordAt R Q.p Q.w ∧ WordAt R Y.p Y.w ∧ VarsOk R) (.bool true) := by
  refine Fn.of S_law30_AnalogyEnds mx [.p P.p, .i P.w.length, .i P.cap, .p X.p, .i X.w.length, .i X.cap, .p Q.p, .i Q.w.length, .i Q.cap, .p Y.p, .i Y.w.length, .i Y.cap] rfl rfl fun c hpre => ?_
  obtain ⟨hP, hX, hQ, hY, hV⟩ := hpre
  have add : ∀ a b : Nat, a ≤ 32 → b ≤ 32 → ar .add .i64 (a : Int) (b : Int) = ((a + b : Nat) : Int) := fun a b _ _ => by rw [addI (by omega) (by omega)]; omega
  refine .join (fun us _ => ∃ x : Bool, us = [.b x] ∧ (x = false → (checkW P.w = 0 ∧ checkW X.w = 0 ∧ checkW Q.w = 0 ∧ checkW Y.w = 0) ∧ P.w.length + X.w.length ≤ 32 ∧ P.w.length + Y.w.length ≤ 32 ∧ Q.w.length + X.w.length ≤ 32 ∧ Q.w.length + Y.w.length ≤ 32)) (.alloc fun b0 => ?_) ?_
  · refine .callV (c_good (some ⟨b0, 0, none⟩) 4 [P, X, Q, Y] (by simp [hp, hx, hq, hy]) (by simp)) (fun g => ⟨g.cells (j := 0) rfl rfl rfl, ?_⟩) (.env (by (try simp only [liE, letsOf, letU, snd, List.append_nil]); rfl) (.ite (fun h1 => .again rfl ⟨true, rfl, fun h => by cases h⟩) (fun h1 => ?_)))
    · simp only [List.mem_cons, List.not_mem_nil, or_false]
      rintro x (rfl | rfl | rfl | rfl)
      · exact hP.mono g.R
      · exact hX.mono g.R
      · exact hQ.mono g.R
      · exact hY.mono g.R
    replace h1 : (!decide (checkL [P.w, X.w, Q.w, Y.w] = 0)) = false := h1
    simp only [Bool.not_eq_false', decide_eq_true_eq] at h1
    rw [checkL_zero] at h1
    have cp := h1 P.w (by simp); have cx := h1 X.w (by simp); have cq := h1 Q.w (by simp); have cy := h1 Y.w (by simp)
    have lp := (checkW_iff.1 cp).1; have lx := (checkW_iff.1 cx).1; have lq := (checkW_iff.1 cq).1; have ly := (checkW_iff.1 cy).1
    refine .chk (by ((try simp only [evE, liE, letsOf, letU, snd]); (try simp only [cmE])); omega) (.chk (by ((try simp only [evE, liE, letsOf, letU, snd]); (try simp only [cmE])); omega) (.ite (fun h2 => .again rfl ⟨true, rfl, fun h => by cases h⟩) (fun h2 => .chk (by ((try simp only [evE, liE, letsOf, letU, snd]); (try simp only [cmE])); omega) (.chk (by ((try simp only [evE, liE, letsOf, letU, snd]); (try simp only [cmE])); omega) (.ite (fun h3 => .again rfl ⟨true, rfl, fun h => by cases h⟩) (fun h3 => .chk (by ((try simp only [evE, liE, letsOf, letU, snd]); (try simp only [cmE])); omega) (.chk (by ((try simp only [evE, liE, letsOf, letU, snd]); (try simp only [cmE])); omega) (.ite (fun h4 => .again rfl ⟨true, rfl, fun h => by cases h⟩) (fun h4 => .chk (by ((try simp only [evE, liE, letsOf, letU, snd]); (try simp only [cmE])); omega) (.chk (by ((try simp only [evE, liE, letsOf, letU, snd]); (try simp only [cmE])); omega) (.again rfl ⟨_, rfl, fun h5 => ⟨⟨cp, cx, cq, cy⟩, ?_⟩⟩))))))))))) 
    replace h2 : cm .gtr (ar .add .i64 (P.w.length : Int) (X.w.length : Int)) 32 = false := h2
    replace h3 : cm .gtr (ar .add .i64 (P.w.length : Int) (Y.w.length : Int)) 32 = false := h3
    replace h4 : cm .gtr (ar .add .i64 (Q.w.length : Int) (X.w.length : Int)) 32 = false := h4
    replace h5 : cm .gtr (ar .add .i64 (Q.w.length : Int) (Y.w.length : Int)) 32 = false := h5
    rw [add _ _ (by omega) (by omega)] at h2 h3 h4 h5
    simp only [cm, decide_eq_false_iff_not] at h2 h3 h4 h5
    omega
  rintro _ m0 _ ⟨x, rfl, hx0⟩
  refine .env (by (try simp only [liE, letsOf, letU, snd, List.append_nil]); rfl) (.ite (fun h1 => .callV c_works (fun g => hV.mono g.R) (.ret rfl rfl)) (fun h1 => ?_))
  obtain ⟨⟨cp, cx, cq, cy⟩, l1, l2, l3, l4⟩ := hx0 (by simpa [BT.eval, Env.bool] using h1)
  clear h1 hx0
  have c1 := checkW_app cp cx l1; have c2 := checkW_app cp cy l2; have c3 := checkW_app cq cx l3; have c4 := checkW_app cq cy l4
  have c5 := checkW_app cx cp (by omega); have c6 := checkW_app cy cp (by omega); have c7 := checkW_app cx cq (by omega)
  have e1 : oneW (P.w ++ X.w) (P.w ++ Y.w) (Q.w ++ X.w) (solveW (P.w ++ X.w) (P.w ++ Y.w) (Q.w ++ X.w)) = (Q.w ++ Y.w, true, 0) := by rw [oneW_ok c1 c2 c3, solve_ends, Option.getD_some, if_neg (by rw [List.length_append]; omega)]; rfl
  have e2 : oneW (P.w ++ X.w) (P.w ++ Y.w) (P.w ++ X.w) (solveW (P.w ++ X.w) (P.w ++ Y.w) (P.w ++ X.w)) = (P.w ++ Y.w, true, 0) := by rw [oneW_ok c1 c2 c1, solve_ends, Option.getD_some, if_neg (by rw [List.length_append]; omega)]; rfl
  have e3 : oneW (X.w ++ P.w) (Y.w ++ P.w) (X.w ++ Q.w) (frontW (X.w ++ P.w) (Y.w ++ P.w) (X.w ++ Q.w)) = (Y.w ++ Q.w, true, 0) := by rw [oneW_ok c5 c6 c7, front_ends, Option.getD_some, if_neg (by rw [List.length_append]; omega)]; rfl
  have e4 : holdsW (P.w ++ X.w) (P.w ++ Y.w) (P.w ++ X.w) (P.w ++ Y.w) = (true, 0) := by
    unfold holdsW
    rw [if_neg (by simp [checkL, c1, c2])]
    unfold supW
    rw [decide_eq_true (solve_res (solve_ends _ _ _ _))]
  have e5 : holdsW (P.w ++ X.w) (P.w ++ Y.w) (Q.w ++ X.w) (Q.w ++ Y.w) = (true, 0) := by
    unfold holdsW
    rw [if_neg (by simp [checkL, c1, c2, c3, c4])]
    unfold supW
    rw [decide_eq_true (solve_res (solve_ends _ _ _ _))]
  have lp := (checkW_iff.1 cp).1; have lx := (checkW_iff.1 cx).1; have lq := (checkW_iff.1 cq).1; have ly := (checkW_iff.1 cy).1
  refine .callM (c_join P X op ox (by omega) (by omega)) rfl rfl (fun g => ⟨hP.mono g.R, hX.mono g.R⟩) ?_
  rintro v mq hfr ⟨q1, k1, rfl, r1⟩
  refine ⟨[.p q1, .i ((P.w ++ X.w).length : Nat), .i k1], ⟨_, _, _, rfl⟩, (slv_fresh _ _ _ _ _).symm, .env (by (try simp only [liE, letsOf, letU, snd, List.append_nil]); rfl) ?_⟩
  have h1 := r1.joinR (m := m0) fun b hb => (hfr b hb).1
  generalize m0.join mq = m1 at *
  clear hfr
  refine .callM (c_join P Y op oy (by omega) (by omega)) rfl rfl (fun g => ⟨hP.mono g.R, hY.mono g.R⟩) ?_
  rintro v mq hfr ⟨q2, k2, rfl, r2⟩
  refine ⟨[.p q2, .i ((P.w ++ Y.w).length : Nat), .i k2], ⟨_, _, _, rfl⟩, (slv_fresh _ _ _ _ _).symm, .env (by (try simp only [liE, letsOf, letU, snd, List.append_nil]); rfl) ?_⟩
  replace h1 := h1.joinL (mq := mq)
  have h2 := r2.joinR (m := m1) fun b hb => (hfr b hb).1
  generalize m1.join mq = m2 at *
  clear hfr
  refine .callM (c_join Q X oq ox (by omega) (by omega)) rfl rfl (fun g => ⟨hQ.mono g.R, hX.mono g.R⟩) ?_
  rintro v mq hfr ⟨q3, k3, rfl, r3⟩
  refine ⟨[.p q3, .i ((Q.w ++ X.w).length : Nat), .i k3], ⟨_, _, _, rfl⟩, (slv_fresh _ _ _ _ _).symm, .env (by (try simp only [liE, letsOf, letU, snd, List.append_nil]); rfl) ?_⟩
  replace h1 := h1.joinL (mq := mq)
  replace h2 := h2.joinL (mq := mq)
  have h3 := r3.joinR (m := m2) fun b hb => (hfr b hb).1
  generalize m2.join mq = m3 at *
  clear hfr
  have g4 := c_Solve ⟨q1, k1, P.w ++ X.w⟩ ⟨q2, k2, P.w ++ Y.w⟩ ⟨q3, k3, Q.w ++ X.w⟩ (Wok.app hp hx) (Wok.app hp hy) (Wok.app hq hx) h1.ok h2.ok h3.ok
  simp only [e1] at g4
  refine .callM g4 rfl rfl (fun g => ⟨h1.reads g, h2.reads g, h3.reads g, hV.mono g.R⟩) ?_
  rintro v mq hfr ⟨q4, k4, rfl, r4⟩
  refine ⟨[.p q4, .i ((Q.w ++ Y.w).length : Nat), .i k4, .b true, .i 0], uOk_of rfl, (res3_fresh _ _ _ _ _ _ _).symm, .env (by (try simp only [liE, letsOf, letU, snd, List.append_nil]); rfl) ?_⟩
  replace h1 := h1.joinL (mq := mq)
  replace h2 := h2.joinL (mq := mq)
  replace h3 := h3.joinL (mq := mq)
  have h4 := r4.joinR (m := m3) fun b hb => (hfr b hb).1
  generalize m3.join mq = m4 at *
  clear hfr
  have g5 := c_Solve ⟨q1, k1, P.w ++ X.w⟩ ⟨q2, k2, P.w ++ Y.w⟩ ⟨q1, k1, P.w ++ X.w⟩ (Wok.app hp hx) (Wok.app hp hy) (Wok.app hp hx) h1.ok h2.ok h1.ok
  simp only [e2] at g5
  refine .callM g5 rfl rfl (fun g => ⟨h1.reads g, h2.reads g, h1.reads g, hV.mono g.R⟩) ?_
  rintro v mq hfr ⟨q5, k5, rfl, r5⟩
  refine ⟨[.p q5, .i ((P.w ++ Y.w).length : Nat), .i k5, .b true, .i 0], uOk_of rfl, (res3_fresh _ _ _ _ _ _ _).symm, .env (by (try simp only [liE, letsOf, letU, snd, List.append_nil]); rfl) ?_⟩
  replace h1 := h1.joinL (mq := mq)
  replace h2 := h2.joinL (mq := mq)
  replace h3 := h3.joinL (mq := mq)
  replace h4 := h4.joinL (mq := mq)
  have h5 := r5.joinR (m := m4) fun b hb => (hfr b hb).1
  generalize m4.join mq = m5 at *
  clear hfr
  have g6 := c_Holds ⟨q1, k1, P.w ++ X.w⟩ ⟨q2, k2, P.w ++ Y.w⟩ ⟨q1, k1, P.w ++ X.w⟩ ⟨q2, k2, P.w ++ Y.w⟩ (Wok.app hp hx) (Wok.app hp hy) (Wok.app hp hx) (Wok.app hp hy) h1.ok h2.ok h1.ok
  simp only [e4] at g6
  refine .callV g6 (fun g => ⟨h1.reads g, h2.reads g, h1.reads g, h2.reads g, hV.mono g.R⟩) (.env (by (try simp only [liE, letsOf, letU, snd, List.append_nil]); rfl) ?_)
  refine .join (fun us mm => us = [.b false] ∧ mm = m5) (.no rfl (.callV (c_wordEqual q5 q2 k5 k2 (P.w ++ Y.w) (P.w ++ Y.w) (by rw [List.length_append]; omega)) (fun g => ⟨h5.reads g, h2.reads g⟩) (.env (by (try simp only [liE, letsOf, letU, snd, List.append_nil]); rfl) (.again rfl ⟨?_, rfl⟩)))) ?_
  · (simp only [evE, liE, letsOf, letU, snd, Sh.uss, Sh.us, atAddr, map_add0, List.append_nil]); simp
  rintro _ mm _ ⟨rfl, hmm⟩
  rw [hmm]
  clear hmm mm
  refine .env (by (try simp only [liE, letsOf, letU, snd, List.append_nil]); rfl) (.no rfl (.no rfl ?_))
  refine .callM (c_join Q Y oq oy (by omega) (by omega)) rfl rfl (fun g => ⟨hQ.mono g.R, hY.mono g.R⟩) ?_
  rintro v mq hfr ⟨q7, k7, rfl, r7⟩
  refine ⟨[.p q7, .i ((Q.w ++ Y.w).length : Nat), .i k7], ⟨_, _, _, rfl⟩, (slv_fresh _ _ _ _ _).symm, .env (by (try simp only [liE, letsOf, letU, snd, List.append_nil]); rfl) ?_⟩
  replace h1 := h1.joinL (mq := mq)
  replace h2 := h2.joinL (mq := mq)
  replace h3 := h3.joinL (mq := mq)
  replace h4 := h4.joinL (mq := mq)
  replace h5 := h5.joinL (mq := mq)
  have h7 := r7.joinR (m := m5) fun b hb => (hfr b hb).1
  generalize m5.join mq = m6 at *
  clear hfr
  refine .callV (c_wordEqual q4 q7 k4 k7 (Q.w ++ Y.w) (Q.w ++ Y.w) (by rw [List.length_append]; omega)) (fun g => ⟨h4.reads g, h7.reads g⟩) (.env (by (try simp only [liE, letsOf, letU, snd, List.append_nil]); rfl) (.no ?_ ?_))
  · ((try simp only [evE, liE, letsOf, letU, snd]); (try simp only [cmE]))
  have g8 := c_Holds ⟨q1, k1, P.w ++ X.w⟩ ⟨q2, k2, P.w ++ Y.w⟩ ⟨q3, k3, Q.w ++ X.w⟩ ⟨q4, k4, Q.w ++ Y.w⟩ (Wok.app hp hx) (Wok.app hp hy) (Wok.app hq hx) (Wok.app hq hy) h1.ok h2.ok h3.ok
  simp only [e5] at g8
  refine .callV g8 (fun g => ⟨h1.reads g, h2.reads g, h3.reads g, h4.reads g, hV.mono g.R⟩) (.env (by (try simp only [liE, letsOf, letU, snd, List.append_nil]); rfl) ?_)
  refine .callM (c_join X P ox op (by omega) (by omega)) rfl rfl (fun g => ⟨hX.mono g.R, hP.mono g.R⟩) ?_
  rintro v mq hfr ⟨q9, k9, rfl, r9⟩
  refine ⟨[.p q9, .i ((X.w ++ P.w).length : Nat), .i k9], ⟨_, _, _, rfl⟩, (slv_fresh _ _ _ _ _).symm, .env (by (try simp only [liE, letsOf, letU, snd, List.append_nil]); rfl) ?_⟩
  replace h1 := h1.joinL (mq := mq)
  replace h2 := h2.joinL (mq := mq)
  replace h3 := h3.joinL (mq := mq)
  replace h4 := h4.joinL (mq := mq)
  replace h5 := h5.joinL (mq := mq)
  replace h7 := h7.joinL (mq := mq)
  have h9 := r9.joinR (m := m6) fun b hb => (hfr b hb).1
  generalize m6.join mq = m7 at *
  clear hfr
  refine .callM (c_join Y P oy op (by omega) (by omega)) rfl rfl (fun g => ⟨hY.mono g.R, hP.mono g.R⟩) ?_
  rintro v mq hfr ⟨q10, k10, rfl, r10⟩
  refine ⟨[.p q10, .i ((Y.w ++ P.w).length : Nat), .i k10], ⟨_, _, _, rfl⟩, (slv_fresh _ _ _ _ _).symm, .env (by (try simp only [liE, letsOf, letU, snd, List.append_nil]); rfl) ?_⟩
  replace h1 := h1.joinL (mq := mq)
  replace h2 := h2.joinL (mq := mq)
  replace h3 := h3.joinL (mq := mq)
  replace h4 := h4.joinL (mq := mq)
  replace h5 := h5.joinL (mq := mq)
  replace h7 := h7.joinL (mq := mq)
  replace h9 := h9.joinL (mq := mq)
  have h10 := r10.joinR (m := m7) fun b hb => (hfr b hb).1
  generalize m7.join mq = m8 at *
  clear hfr
  refine .callM (c_join X Q ox oq (by omega) (by omega)) rfl rfl (fun g => ⟨hX.mono g.R, hQ.mono g.R⟩) ?_
  rintro v mq hfr ⟨q11, k11, rfl, r11⟩
  refine ⟨[.p q11, .i ((X.w ++ Q.w).length : Nat), .i k11], ⟨_, _, _, rfl⟩, (slv_fresh _ _ _ _ _).symm, .env (by (try simp only [liE, letsOf, letU, snd, List.append_nil]); rfl) ?_⟩
  replace h1 := h1.joinL (mq := mq)
  replace h2 := h2.joinL (mq := mq)
  replace h3 := h3.joinL (mq := mq)
  replace h4 := h4.joinL (mq := mq)
  replace h5 := h5.joinL (mq := mq)
  replace h7 := h7.joinL (mq := mq)
  replace h9 := h9.joinL (mq := mq)
  replace h10 := h10.joinL (mq := mq)
  have h11 := r11.joinR (m := m8) fun b hb => (hfr b hb).1
  generalize m8.join mq = m9 at *
  clear hfr
  have g12 := c_Front ⟨q9, k9, X.w ++ P.w⟩ ⟨q10, k10, Y.w ++ P.w⟩ ⟨q11, k11, X.w ++ Q.w⟩ (Wok.app hx hp) (Wok.app hy hp) (Wok.app hx hq) h9.ok h10.ok h11.ok
  simp only [e3] at g12
  refine .callM g12 rfl rfl (fun g => ⟨h9.reads g, h10.reads g, h11.reads g, hV.mono g.R⟩) ?_
  rintro v mq hfr ⟨q12, k12, rfl, r12⟩
  refine ⟨[.p q12, .i ((Y.w ++ Q.w).length : Nat), .i k12, .b true, .i 0], uOk_of rfl, (res3_fresh _ _ _ _ _ _ _).symm, .env (by (try simp only [liE, letsOf, letU, snd, List.append_nil]); rfl) ?_⟩
  replace h1 := h1.joinL (mq := mq)
  replace h2 := h2.joinL (mq := mq)
  replace h3 := h3.joinL (mq := mq)
  replace h4 := h4.joinL (mq := mq)
  replace h5 := h5.joinL (mq := mq)
  replace h7 := h7.joinL (mq := mq)
  replace h9 := h9.joinL (mq := mq)
  replace h10 := h10.joinL (mq := mq)
  replace h11 := h11.joinL (mq := mq)
  have h12 := r12.joinR (m := m9) fun b hb => (hfr b hb).1
  generalize m9.join mq = m10 at *
  clear hfr
  refine .no rfl (.yes rfl ?_)
  refine .callM (c_join Y Q oy oq (by omega) (by omega)) rfl rfl (fun g => ⟨hY.mono g.R, hQ.mono g.R⟩) ?_
  rintro v mq hfr ⟨q13, k13, rfl, r13⟩
  refine ⟨[.p q13, .i ((Y.w ++ Q.w).length : Nat), .i k13], ⟨_, _, _, rfl⟩, (slv_fresh _ _ _ _ _).symm, .env (by (try simp only [liE, letsOf, letU, snd, List.append_nil]); rfl) ?_⟩
  replace h1 := h1.joinL (mq := mq)
  replace h2 := h2.joinL (mq := mq)
  replace h3 := h3.joinL (mq := mq)
  replace h4 := h4.joinL (mq := mq)
  replace h5 := h5.joinL (mq := mq)
  replace h7 := h7.joinL (mq := mq)
  replace h9 := h9.joinL (mq := mq)
  replace h10 := h10.joinL (mq := mq)
  replace h11 := h11.joinL (mq := mq)
  replace h12 := h12.joinL (mq := mq)
  have h13 := r13.joinR (m := m10) fun b hb => (hfr b hb).1
  generalize m10.join mq = m11 at *
  clear hfr
  refine .callV (c_wordEqual q12 q13 k12 k13 (Y.w ++ Q.w) (Y.w ++ Q.w) (by rw [List.length_append]; omega)) (fun g => ⟨h12.reads g, h13.reads g⟩) (.env (by (try simp only [liE, letsOf, letU, snd, List.append_nil]); rfl) (.yes ?_ (.callV c_works (fun g => hV.mono g.R) (.ret rfl rfl))))
  ((try simp only [evE, liE, letsOf, letU, snd]); (try simp only [cmE]))
end Go.Proofs.YtpbbnmjkbfbelaaDoor
