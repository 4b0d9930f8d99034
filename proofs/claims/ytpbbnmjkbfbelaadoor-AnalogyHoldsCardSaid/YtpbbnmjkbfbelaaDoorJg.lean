/- Chapter 30: the reference's changes, Solve and Front; its checks. -/
import Derived.Test.YtpbbnmjkbfbelaaDoorJf
set_option linter.unusedSimpArgs false
set_option linter.unusedVariables false
namespace Go.Proofs.YtpbbnmjkbfbelaaDoor
open Go Go.Sy Go.RowKit
set_option maxHeartbeats 400000 in
theorem c_refSolve0 (A B C : WD) (oa : A.ok) (ob : B.ok) (oc : C.ok) (la : A.w.length < 2 ^ 38) (lb : B.w.length < 2 ^ 38) (lc : C.w.length < 2 ^ 38) : FnM Tryd.prog n_ref30_solve [A.v, B.v, C.v] (fun R => WordAt R A.p A.w ∧ WordAt R B.p B.w ∧ WordAt R C.p C.w) fun v mq _ => Opt 31 mq v (solveW A.w B.w C.w) := by
  refine FnM.of S_ref30_solve mx [.p A.p, .i A.w.length, .i A.cap, .p B.p, .i B.w.length, .i B.cap, .p C.p, .i C.w.length, .i C.cap] rfl rfl fun c hp => ?_
  refine .loop (fun n us mm => ∃ j : Nat, us = [.i j] ∧ n + j = min A.w.length B.w.length ∧ cpl A.w B.w = j + cpl (A.w.drop j) (B.w.drop j) ∧ mm = Mem.emp) (min A.w.length B.w.length) ⟨0, rfl, rfl, by simp, rfl⟩ ?_
  rintro n _ _ _ ⟨j, rfl, hn, hc, rfl⟩
  refine .join (fun us mm => mm = Mem.emp ∧ ∃ x : Bool, us = [.b x] ∧ (x = true ↔ ∃ (ha : j < A.w.length) (hb : j < B.w.length), A.w[j] = B.w[j])) (.chk (by ((try simp only [evE, liE, letsOf, letU, snd]); (try simp only [cmE])); omega) (.ite (fun h1 => .chk (by ((try simp only [evE, liE, letsOf, letU, snd]); (try simp only [cmE])); omega) (.ite (fun h2 => ?_) (fun h2 => .again rfl ⟨rfl, false, rfl, ?_⟩))) (fun h1 => .again rfl ⟨rfl, false, rfl, ?_⟩))) ?_
  · ((try simp only [evE, liE, letsOf, letU, snd] at h1); (try simp only [cmE] at h1)); ((try simp only [evE, liE, letsOf, letU, snd] at h2); (try simp only [cmE] at h2))
    have ha : j < A.w.length := by omega
    have hb : j < B.w.length := by omega
    refine .loadW A.w j ha (fun g => hp.1.mono g.R) (.env (by (try simp only [liE, letsOf, letU, snd, List.append_nil]); rfl) (.loadW B.w j hb (fun g => hp.2.1.mono g.R) (.again rfl ⟨rfl, (bif cm .eql (A.w[j].1 : Int) (B.w[j].1 : Int) then cm .eql (A.w[j].2 : Int) (B.w[j].2 : Int) else false), rfl, ?_⟩)))
    rw [pick_and]
    simp only [cm, Bool.and_eq_true, beq_iff_eq, ha, hb, exists_true_left]
    exact snd_eq
  · ((try simp only [evE, liE, letsOf, letU, snd] at h1); (try simp only [cmE] at h1)); ((try simp only [evE, liE, letsOf, letU, snd] at h2); (try simp only [cmE] at h2))
    simp only [Bool.false_eq_true, false_iff]
    rintro ⟨ha, hb, _⟩; omega
  · ((try simp only [evE, liE, letsOf, letU, snd] at h1); (try simp only [cmE] at h1))
    simp only [Bool.false_eq_true, false_iff]
    rintro ⟨ha, hb, _⟩; omega
  rintro _ _ _ ⟨rfl, x, rfl, hx⟩
  refine .env (by (try simp only [liE, letsOf, letU, snd, List.append_nil]); rfl) (.ite (fun h1 => .again rfl ⟨n - 1, ?_, j + 1, ?_, ?_, ?_, rfl⟩) (fun h1 => ?_))
  · obtain ⟨ha, hb, _⟩ := hx.1 h1; omega
  · obtain ⟨ha, hb, _⟩ := hx.1 h1
    (simp only [evE, liE, letsOf, letU, snd, Sh.uss, Sh.us, atAddr, map_add0, List.append_nil]); rw [add_i64 j (by omega)]
  · obtain ⟨ha, hb, _⟩ := hx.1 h1; omega
  · obtain ⟨ha, hb, e⟩ := hx.1 h1
    rw [hc, cpl_drop ha hb, if_pos e]; omega
  replace h1 : x = false := h1
  subst h1
  have hc' : cpl A.w B.w = j := by
    rw [hc]
    rcases Nat.lt_or_ge j A.w.length with ha | ha
    · rcases Nat.lt_or_ge j B.w.length with hb | hb
      · rw [cpl_drop ha hb, if_neg fun e => by cases hx.2 ⟨ha, hb, e⟩]; omega
      · rw [cpl_end (.inr hb)]; omega
    · rw [cpl_end (.inl ha)]; omega
  have hle := cpl_le A.w B.w
  have hca := oa.le; have hcb := ob.le; have hcc := oc.le
  rw [hc'] at hle
  have hs : solveW A.w B.w C.w = applyE (A.from j).w (B.from j).w C.w := by unfold solveW; rw [hc']; rfl
  have hX : (A.from j).w.length = A.w.length - j := by simp [WD.from]
  have hY : (B.from j).w.length = B.w.length - j := by simp [WD.from]
  rw [hs]
  have ox : (A.from j).ok := WD.from_ok oa hle.1
  have oy : (B.from j).ok := WD.from_ok ob hle.2
  have es : ar .sub .i64 (C.w.length : Int) ((A.w.length : Int) - (j : Int)) = (C.w.length : Int) - (A.w.length - j : Nat) := by rw [subI (by omega) (by omega)]; omega
  clear hx hc hn hs
  refine .chk (by ((try simp only [evE, liE, letsOf, letU, snd]); (try simp only [cmE])); omega) (.chk (by ((try simp only [evE, liE, letsOf, letU, snd]); (try simp only [cmE])); omega) (.chk (by ((try simp only [evE, liE, letsOf, letU, snd]); (try simp only [cmE])); omega) (.chk (by ((try simp only [evE, liE, letsOf, letU, snd]); (try simp only [cmE])); omega) ?_)))
  obtain ⟨r, hr⟩ : ∃ r, r = C.w.length - (A.w.length - j) := ⟨_, rfl⟩
  refine .join (fun us mm => mm = Mem.emp ∧ ∃ x : Bool, us = [.b x] ∧ (x = false ↔ A.w.length - j ≤ C.w.length ∧ C.w.drop r = (A.from j).w)) (.ite (fun h1 => .again rfl ⟨rfl, true, rfl, ?_⟩) (fun h1 => ?_)) ?_
  · replace h1 : cm .lss (ar .sub .i64 (C.w.length : Int) ((A.w.length : Int) - (j : Int))) 0 = true := h1
    rw [es] at h1
    simp only [cm, decide_eq_true_eq] at h1
    simp; omega
  · replace h1 : cm .lss (ar .sub .i64 (C.w.length : Int) ((A.w.length : Int) - (j : Int))) 0 = false := h1
    rw [es] at h1
    simp only [cm, decide_eq_false_iff_not] at h1
    have er : ar .sub .i64 (C.w.length : Int) ((A.w.length : Int) - (j : Int)) = (r : Int) := by rw [es]; omega
    refine .chk ?_ (.callV (c_refEqual (C.from r).p (A.from j).p (C.from r).cap (A.from j).cap (C.from r).w (A.from j).w (by simp [WD.from]; omega)) (fun g => ⟨WordAt.from (hp.2.2.mono g.R) hcc r, WordAt.from (hp.1.mono g.R) hca j⟩) (.env (by (try simp only [liE, letsOf, letU, snd, List.append_nil]); rfl) (.again rfl ⟨rfl, !decide ((C.from r).w = (A.from j).w), rfl, ?_⟩)) (hargs := ?_))
    · show (bif cm .leq 0 (ar .sub .i64 (C.w.length : Int) ((A.w.length : Int) - (j : Int))) then (bif cm .leq (ar .sub .i64 (C.w.length : Int) ((A.w.length : Int) - (j : Int))) (C.w.length : Int) then cm .leq (C.w.length : Int) (C.cap : Int) else false) else false) = true
      rw [er]
      simp only [cm, pick_and, Bool.and_eq_true, decide_eq_true_eq]; omega
    · rw [Bool.not_eq_false', decide_eq_true_eq]
      exact ⟨fun h => ⟨by omega, h⟩, fun h => h.2⟩
    · simp only [SV.dens]
      rw [den_from (x := C) (n := r) rfl rfl (by show ar .sub .i64 (C.w.length : Int) ((A.w.length : Int) - (j : Int)) = _; exact er) rfl, den_from (x := A) (n := j) rfl rfl rfl rfl]
      rfl
  rintro _ _ _ ⟨rfl, x, rfl, hx⟩
  refine .env (by (try simp only [liE, letsOf, letU, snd, List.append_nil]); rfl) (.ite (fun h1 => .ret rfl ?_) (fun h1 => .alloc fun b0 => ?_))
  · replace h1 : x = true := h1
    subst h1
    have : applyE (A.from j).w (B.from j).w C.w = none := by
      unfold applyE
      rw [if_neg]
      rintro ⟨h2, h3⟩
      rw [hX, ← hr] at h3
      cases hx.2 ⟨by omega, h3⟩
    rw [this]; exact Opt.none _ _
  replace h1 : x = false := h1
  subst h1
  obtain ⟨h2, h3⟩ := hx.1 rfl
  have er : ar .sub .i64 (C.w.length : Int) ((A.w.length : Int) - (j : Int)) = (r : Int) := by rw [es]; omega
  have happ : applyE (A.from j).w (B.from j).w C.w = some (C.w.take r ++ (B.from j).w) := by
    unfold applyE
    rw [hX, ← hr, if_pos ⟨h2, h3⟩]
  rw [happ]
  have hul : (C.upto r).w.length = r := by simp [WD.upto]; omega
  refine .chk ?_ (.appendLit (b0 := b0) (qx := (C.upto r).p) (kx := (C.upto r).w.length) (capx := (C.upto r).cap) (news := wcells (C.upto r).w) el22 (fun g => WordAt.upto (hp.2.2.mono g.R) r) (wcells_len _) (wcells_one _) (WD.upto_ok oc r).nil (by simp [maxLen]; omega) (by omega) (fun q1 k1 m1 hr1 h01 _ => ?_) (hxv := den_upto (x := C) (n := r) rfl rfl (by show ar .sub .i64 (C.w.length : Int) ((A.w.length : Int) - (j : Int)) = _; exact er) (by omega)))
  · show (bif cm .leq 0 (ar .sub .i64 (C.w.length : Int) ((A.w.length : Int) - (j : Int))) then cm .leq (ar .sub .i64 (C.w.length : Int) ((A.w.length : Int) - (j : Int))) (C.cap : Int) else false) = true
    rw [er]
    simp only [cm, pick_and, Bool.and_eq_true, decide_eq_true_eq]; omega
  have hlen : (C.w.take r ++ (B.from j).w).length = (C.upto r).w.length + (B.from j).w.length := by rw [List.length_append]; rfl
  have hnil : (B.from j).p = none → (B.from j).cap = 0 := oy.nil
  have hxB : ∀ ρ : Env, ρ.ptr 3 = B.p → ρ.int 5 = (B.cap : Int) → ρ.int 9 = (j : Int) → ρ.int 4 = (B.w.length : Int) → (SV.sl 3 (.ifeq (.var 5) (.var 9) (.lit 0) (.off (.var 9) 2 (.lit 0))) (.dif (.var 4) (.var 9)) (.dif (.var 5) (.var 9))).den ([] ++ [b0]) ρ = slv (B.from j).p (B.from j).w.length (B.from j).cap := fun ρ h1 h2 h3 h4 => den_from (x := B) (n := j) h1 h2 h3 h4
  by_cases h0 : (C.upto r).w.length = 0
  · obtain ⟨rfl, rfl⟩ := h01 h0
    rw [h0]
    have e0 : C.w.take r = [] := List.length_eq_zero_iff.1 h0
    refine .env (by (try simp only [liE, letsOf, letU, snd, List.append_nil]); rfl) (.appendOwn (b0 := b0) (n := 0) (xs := []) (qx := (B.from j).p) (kx := (B.from j).w.length) (capx := (B.from j).cap) (news := wcells (B.from j).w) el22 rfl (fun _ i x h => by simp at h) (fun g => WordAt.from (hp.2.1.mono g.R) hcb j) (wcells_len _) (wcells_one _) hnil (by simp [maxLen]; omega) (by omega) (fun q2 k2 m2 hr2 h02 _ => ?_) (hxv := hxB _ rfl rfl rfl rfl))
    refine .env (by (try simp only [liE, letsOf, letU, snd, List.append_nil]); rfl) (.ret rfl ⟨q2, k2, ?_, ⟨fun hne => ?_, fun hq => ?_, ?_⟩⟩)
    · show _ = Value.tuple #[slv q2 (C.w.take r ++ (B.from j).w).length k2, .bool true]
      rw [hlen, h0]; rfl
    · have := (hr2 (fun h => hne (by rw [Option.getD_some, e0, List.nil_append]; exact List.length_eq_zero_iff.1 h))).1
      rw [Option.getD_some, e0, List.nil_append]
      simpa using this
    · by_cases h : (B.from j).w.length = 0
      · rw [(h02 h).1] at hq; cases hq
      · exact row_cap0 (hr2 h).1 hq
    · show (C.w.take r ++ (B.from j).w).length ≤ k2
      rw [hlen, h0]
      by_cases h : (B.from j).w.length = 0
      · rw [h]; omega
      · exact (hr2 h).1.cap_le
  · refine .env (by (try simp only [liE, letsOf, letU, snd, List.append_nil]); rfl) (.append (q := q1) (cap := k1) (n := (C.upto r).w.length) (qx := (B.from j).p) (kx := (B.from j).w.length) (capx := (B.from j).cap) (news := wcells (B.from j).w) el22 (hr1 h0) (fun g => WordAt.from (hp.2.1.mono g.R) hcb j) (wcells_len _) (wcells_one _) hnil (by simp [maxLen]; omega) (by omega) (fun q2 k2 m2 hr2 _ _ => ?_) (hxv := hxB _ rfl rfl rfl rfl))
    refine .env (by (try simp only [liE, letsOf, letU, snd, List.append_nil]); rfl) (.ret rfl ⟨q2, k2, ?_, .of ?_⟩)
    · show _ = Value.tuple #[slv q2 (C.w.take r ++ (B.from j).w).length k2, .bool true]
      rw [hlen]; rfl
    · show Row m2 31 2 q2 k2 (C.w.take r ++ (B.from j).w).length (wcells (C.w.take r ++ (B.from j).w))
      rw [hlen, wcells_append]; exact hr2
theorem c_refFront0 (A B C : WD) (la : A.w.length < 2 ^ 38) (lb : B.w.length < 2 ^ 38) (lc : C.w.length < 2 ^ 38) : FnM Tryd.prog n_ref30_front [A.v, B.v, C.v] (fun R => WordAt R A.p A.w ∧ WordAt R B.p B.w ∧ WordAt R C.p C.w) fun v mq _ => Opt 31 mq v (frontW A.w B.w C.w) := by
  refine FnM.of S_ref30_front mx [.p A.p, .i A.w.length, .i A.cap, .p B.p, .i B.w.length, .i B.cap, .p C.p, .i C.w.length, .i C.cap] rfl rfl fun c hp => ?_
  refine .callM (c_back A (by omega)) rfl rfl (fun g => hp.1.mono g.R) ?_
  rintro v mq hf ⟨qa, ka, rfl, ha⟩
  refine ⟨[.p qa, .i (A.w.reverse.length : Nat), .i (ka : Nat)], ⟨_, _, _, rfl⟩, (slv_fresh _ _ _ _ _).symm, ?_⟩
  replace ha := ha.joinR (m := Mem.emp) fun b hb => (hf b hb).1
  refine .env (by (try simp only [liE, letsOf, letU, snd, List.append_nil]); rfl) (.callM (c_back B (by omega)) rfl rfl (fun g => hp.2.1.mono g.R) ?_)
  rintro v mq2 hf2 ⟨qb, kb, rfl, hb⟩
  refine ⟨[.p qb, .i (B.w.reverse.length : Nat), .i (kb : Nat)], ⟨_, _, _, rfl⟩, (slv_fresh _ _ _ _ _).symm, ?_⟩
  replace hb := hb.joinR fun b hb => (hf2 b hb).1
  replace ha := ha.joinL (mq := mq2)
  generalize (Mem.emp.join mq).join mq2 = m at *
  refine .env (by (try simp only [liE, letsOf, letU, snd, List.append_nil]); rfl) (.callM (c_back C (by omega)) rfl rfl (fun g => hp.2.2.mono g.R) ?_)
  rintro v mq3 hf3 ⟨qc, kc, rfl, hc⟩
  refine ⟨[.p qc, .i (C.w.reverse.length : Nat), .i (kc : Nat)], ⟨_, _, _, rfl⟩, (slv_fresh _ _ _ _ _).symm, ?_⟩
  replace hc := hc.joinR fun b hb => (hf3 b hb).1
  replace ha := ha.joinL (mq := mq3)
  replace hb := hb.joinL (mq := mq3)
  generalize m.join mq3 = m2 at *
  clear hf hf2 hf3
  refine .env (by (try simp only [liE, letsOf, letU, snd, List.append_nil]); rfl) (.callM (c_refSolve0 ⟨qa, ka, A.w.reverse⟩ ⟨qb, kb, B.w.reverse⟩ ⟨qc, kc, C.w.reverse⟩ ha.ok hb.ok hc.ok (by simpa using la) (by simpa using lb) (by simpa using lc)) rfl rfl (fun g => ⟨ha.reads g, hb.reads g, hc.reads g⟩) ?_)
  rintro v mq4 hf4 ⟨q, k, rfl, hr⟩
  have hs := solve_rev A.w B.w C.w
  simp only [] at hr
  have hl : ((solveW A.w.reverse B.w.reverse C.w.reverse).getD []).length < 2 ^ 39 := by
    unfold solveW applyE
    split
    · simp only [Option.getD_some, List.length_append, List.length_take, List.length_drop, List.length_reverse]; omega
    · simp
  rw [← hs]
  generalize solveW A.w.reverse B.w.reverse C.w.reverse = o at *
  refine ⟨[.p q, .i ((o.getD []).length : Nat), .i (k : Nat), .b o.isSome], uOk_of rfl, (opt_fresh _ _ _ _ _ _).symm, ?_⟩
  replace hr := hr.joinR fun b hb => (hf4 b hb).1
  generalize m2.join mq4 = m3 at hr ⊢
  clear hf4 ha hb hc m2
  refine .env (by (try simp only [liE, letsOf, letU, snd, List.append_nil]); rfl) (.callM (c_back ⟨q, k, o.getD []⟩ ?_) rfl rfl (fun g => hr.reads g) ?_)
  · show (o.getD []).length < 2 ^ 40
    omega
  rintro v mq5 hf5 ⟨q5, k5, rfl, hr5⟩
  have e : (o.map List.reverse).getD [] = (o.getD []).reverse := by cases o <;> rfl
  refine ⟨[.p q5, .i ((o.getD []).reverse.length : Nat), .i (k5 : Nat)], ⟨_, _, _, rfl⟩, (slv_fresh _ _ _ _ _).symm, .env (by (try simp only [liE, letsOf, letU, snd, List.append_nil]); rfl) (.ret rfl ⟨q5, k5, ?_, ?_⟩)⟩
  · rw [e, Option.isSome_map]; rfl
  · rw [e]; exact hr5.joinR fun b hb => (hf5 b hb).1
end Go.Proofs.YtpbbnmjkbfbelaaDoor
