/- Chapter 30: the laws AnalogyHolds, AnalogyCounts, AnalogyExtends. -/
import Derived.Test.YtpbbnmjkbfbelaaDoorBe
import Derived.Test.YtpbbnmjkbfbelaaDoorTcHolds
import Derived.Test.YtpbbnmjkbfbelaaDoorTcCounts
import Derived.Test.YtpbbnmjkbfbelaaDoorTcExtends
set_option linter.unusedSimpArgs false
set_option linter.unusedVariables false
namespace Go.Proofs.YtpbbnmjkbfbelaaDoor
open Go Go.Sy Go.RowKit
theorem l_AnalogyHolds (A B C D : WD) (ha : Wok A.w) (hb : Wok B.w) (hc : Wok C.w) (hd : Wok D.w) (oa : A.ok) (ob : B.ok) (oc : C.ok) : RetP Tryd.prog n_law30_AnalogyHolds [.agg #[A.v, B.v, C.v, D.v]] (fun R => WordAt R A.p A.w ∧ WordAt R B.p B.w ∧ WordAt R C.p C.w ∧ WordAt R D.p D.w ∧ VarsOk R) (.bool true) := by
  refine Fn.of S_law30_AnalogyHolds mx [.p A.p, .i A.w.length, .i A.cap, .p B.p, .i B.w.length, .i B.cap, .p C.p, .i C.w.length, .i C.cap, .p D.p, .i D.w.length, .i D.cap] rfl rfl fun c hp => .alloc fun b0 => ?_
  refine .join (fun us _ => ∃ x : Bool, us = [.b x]) (.chk (by ((try simp only [evE, liE, letsOf, letU, snd]); (try simp only [cmE])); omega) (.ite (fun _ => .again rfl ⟨true, rfl⟩) (fun _ => .chk (by ((try simp only [evE, liE, letsOf, letU, snd]); (try simp only [cmE])); omega) (.ite (fun _ => .again rfl ⟨true, rfl⟩) (fun _ => .chk (by ((try simp only [evE, liE, letsOf, letU, snd]); (try simp only [cmE])); omega) (.ite (fun _ => .again rfl ⟨true, rfl⟩) (fun _ => .chk (by ((try simp only [evE, liE, letsOf, letU, snd]); (try simp only [cmE])); omega) (.again rfl ⟨_, rfl⟩)))))))) ?_
  rintro _ _ _ ⟨x, rfl⟩
  refine .env (by (try simp only [liE, letsOf, letU, snd, List.append_nil]); rfl) (.ite (fun _ => .callV c_works (fun g => hp.2.2.2.2.mono g.R) (.ret rfl rfl)) (fun _ => ?_))
  refine .callV (c_Holds A B C D ha hb hc hd oa ob oc) (fun g => ⟨hp.1.mono g.R, hp.2.1.mono g.R, hp.2.2.1.mono g.R, hp.2.2.2.1.mono g.R, hp.2.2.2.2.mono g.R⟩) (.env (by (try simp only [liE, letsOf, letU, snd, List.append_nil]); rfl) (.callV (c_refHolds A B C D ha hb hc hd oa ob oc) (fun g => ⟨hp.1.mono g.R, hp.2.1.mono g.R, hp.2.2.1.mono g.R, hp.2.2.2.1.mono g.R⟩) (.env (by (try simp only [liE, letsOf, letU, snd, List.append_nil]); rfl) ?_)))
  generalize holdsW A.w B.w C.w D.w = r
  refine .join (fun us _ => us = [.b true]) (.yes ?_ (.callV c_works (fun g => hp.2.2.2.2.mono g.R) (.again rfl rfl))) ?_
  · show (bif (r.1 == r.1) then cm .eql r.2 r.2 else false) = true
    simp [cm]
  rintro _ _ _ rfl
  exact .ret rfl rfl
theorem c_few (p : Option Addr) (cp : Nat) (ms : List MD) (hl : ms.length ≤ maxLen) : FnM Tryd.prog n_law30_few [slv p ms.length cp] (fun R => Cells R p (mcells ms)) fun v _ _ => ∃ x : Bool, v = .bool x ∧ (x = true → ms.length ≤ 400) := by
  refine FnM.of S_law30_few mx [.p p, .i ms.length, .i cp] rfl rfl fun c hp => .chk (by ((try simp only [evE, liE, letsOf, letU, snd]); (try simp only [cmE])); omega) ?_
  refine .ite (fun h1 => .chk (by ((try simp only [evE, liE, letsOf, letU, snd]); (try simp only [cmE])); omega) (.ite (fun _ => .ret rfl ⟨false, rfl, fun h => by cases h⟩) (fun _ => .chk (by ((try simp only [evE, liE, letsOf, letU, snd]); (try simp only [cmE])); omega) (.ite (fun _ => .ret rfl ⟨false, rfl, fun h => by cases h⟩) (fun h4 => ?_))))) (fun h1 => .chk (by ((try simp only [evE, liE, letsOf, letU, snd]); (try simp only [cmE])); omega) (.ite (fun _ => .ret rfl ⟨false, rfl, fun h => by cases h⟩) (fun h4 => ?_))) <;>
  · ((try simp only [evE, liE, letsOf, letU, snd] at h4); (try simp only [cmE] at h4))
    have hl4 : ms.length ≤ 400 := by omega
    refine .loop (fun n us _ => ∃ (e : Bool) (j : Nat), us = [.b e, .i j] ∧ n + j = ms.length) ms.length ⟨false, 0, rfl, rfl⟩ ?_
    rintro n _ m _ ⟨e, j, rfl, hn⟩
    refine .env (by (try simp only [liE, letsOf, letU, snd, List.append_nil]); rfl) (.chk (by ((try simp only [evE, liE, letsOf, letU, snd]); (try simp only [cmE])); omega) (.ite (fun h2 => ?_) (fun h2 => .ret rfl ⟨_, rfl, fun _ => hl4⟩))) <;> ((try simp only [evE, liE, letsOf, letU, snd] at h2); (try simp only [cmE] at h2))
    have hj : j < ms.length := by omega
    have hcs := mcells_at ms j hj
    obtain ⟨b, o, hpe⟩ := (hp.some (i := j * 2) (by rw [mcells_len]; omega) : ∃ b o, p = some ⟨b, o, none⟩)
    subst hpe
    refine .join (fun us _ => ∃ x : Bool, us = [.b x]) (.chk (by ((try simp only [evE, liE, letsOf, letU, snd]); (try simp only [cmE])); simp; omega) (.chk (by ((try simp only [evE, liE, letsOf, letU, snd]); (try simp only [cmE])); simp; omega) (.loadS (mcells ms) (j * 2) ms[j].a.p ms[j].a.w.length ms[j].a.cap ?_ hcs.1 (fun g => hp.mono g.R) (.env (by (try simp only [liE, letsOf, letU, snd, List.append_nil]); rfl) (.chk (by ((try simp only [evE, liE, letsOf, letU, snd]); (try simp only [cmE])); omega) (.ite (fun _ => .again rfl ⟨true, rfl⟩) (fun _ => .chk (by ((try simp only [evE, liE, letsOf, letU, snd]); (try simp only [cmE])); simp; omega) (.chk (by ((try simp only [evE, liE, letsOf, letU, snd]); (try simp only [cmE])); simp; omega) (.loadS (mcells ms) (j * 2 + 1) ms[j].b.p ms[j].b.w.length ms[j].b.cap ?_ hcs.2 (fun g => hp.mono g.R) (.env (by (try simp only [liE, letsOf, letU, snd, List.append_nil]); rfl) (.chk (by ((try simp only [evE, liE, letsOf, letU, snd]); (try simp only [cmE])); omega) (.again rfl ⟨_, rfl⟩)))))))))))) ?_
    · simp only [IT.eval, Env.int]; simp
    · simp only [IT.eval, Env.int]; simp <;> omega
    rintro _ _ _ ⟨x, rfl⟩
    refine .env (by (try simp only [liE, letsOf, letU, snd, List.append_nil]); rfl) (.ite (fun _ => .ret rfl ⟨false, rfl, fun h => by cases h⟩) (fun _ => .again rfl ⟨n - 1, by omega, e, j + 1, ?_, by omega⟩))
    (simp only [evE, liE, letsOf, letU, snd, Sh.uss, Sh.us, atAddr, map_add0, List.append_nil]); rw [add_i64 j (by omega)]
theorem l_AnalogyCounts (p : Option Addr) (cp : Nat) (ms : List MD) (C D : WD) (hm : ModelsOk ms) (hc : Wok C.w) (hd : Wok D.w) (oc : C.ok) (hl' : ms.length ≤ maxLen) : RetP Tryd.prog n_law30_AnalogyCounts [slv p ms.length cp, C.v, D.v] (fun R => ModelsAt R p ms ∧ WordAt R C.p C.w ∧ WordAt R D.p D.w ∧ VarsOk R) (.bool true) := by
  refine Fn.of S_law30_AnalogyCounts mx [.p p, .i ms.length, .i cp, .p C.p, .i C.w.length, .i C.cap, .p D.p, .i D.w.length, .i D.cap] rfl rfl fun c hp => ?_
  obtain ⟨hM, hC, hD, hV⟩ := hp
  refine .join (fun us _ => ∃ x : Bool, us = [.b x] ∧ (x = false → ms.length < 2 ^ 62)) (.callM (c_few p cp ms hl') rfl rfl (fun g => hM.1.mono g.R) ?_) ?_
  · rintro v mq hf ⟨x, rfl, hx⟩
    refine ⟨[.b x], ⟨_, rfl⟩, rfl, .env (by (try simp only [liE, letsOf, letU, snd, List.append_nil]); rfl) (.ite (fun _ => .again rfl ⟨true, rfl, fun h => by cases h⟩) (fun hq => .chk (by ((try simp only [evE, liE, letsOf, letU, snd]); (try simp only [cmE])); omega) (.ite (fun _ => .again rfl ⟨true, rfl, fun h => by cases h⟩) (fun _ => .chk (by ((try simp only [evE, liE, letsOf, letU, snd]); (try simp only [cmE])); omega) (.again rfl ⟨_, rfl, fun _ => by have := hx (by simpa [BT.eval, Env.bool] using hq); omega⟩)))))⟩
  rintro _ _ _ ⟨x, rfl, hl⟩
  refine .env (by (try simp only [liE, letsOf, letU, snd, List.append_nil]); rfl) (.ite (fun _ => .callV c_works (fun g => hV.mono g.R) (.ret rfl rfl)) (fun hq => ?_))
  replace hl := hl (by simpa [BT.eval, Env.bool] using hq)
  refine .callV (c_Explain p cp ms C D hm hc hd oc hl) (fun g => ⟨hM.mono g.R, hC.mono g.R, hD.mono g.R, hV.mono g.R⟩) (.env (by (try simp only [liE, letsOf, letU, snd, List.append_nil]); rfl) (.callV (c_refExplain p cp ms C D hm hc hd oc hl) (fun g => ⟨hM.mono g.R, hC.mono g.R, hD.mono g.R⟩) (.env (by (try simp only [liE, letsOf, letU, snd, List.append_nil]); rfl) ?_)))
  refine .callV (c_Count p cp ms C D hm hc hd oc hl) (fun g => ⟨hM.mono g.R, hC.mono g.R, hD.mono g.R, hV.mono g.R⟩) (.env (by (try simp only [liE, letsOf, letU, snd, List.append_nil]); rfl) (.callV (c_refCount p cp ms C D hm hc hd oc hl) (fun g => ⟨hM.mono g.R, hC.mono g.R, hD.mono g.R⟩) (.env (by (try simp only [liE, letsOf, letU, snd, List.append_nil]); rfl) ?_)))
  generalize explW ms C.w D.w = r
  generalize countW ms C.w D.w = s
  refine .join (fun us _ => us = [.b true]) (.yes ?_ (.callV c_works (fun g => hV.mono g.R) (.again rfl rfl))) ?_
  · show (bif (bif (bif (bif cm .eql r.1 r.1 then (r.2.1 == r.2.1) else false) then cm .eql r.2.2 r.2.2 else false) then cm .eql s.1 s.1 else false) then cm .eql s.2 s.2 else false) = true
    simp [cm]
  rintro _ _ _ rfl
  exact .ret rfl rfl
theorem l_AnalogyExtends (p : Option Addr) (cp : Nat) (ms : List MD) (C : WD) (hm : ModelsOk ms) (hc : Wok C.w) (oc : C.ok) (hl' : ms.length ≤ maxLen) : RetP Tryd.prog n_law30_AnalogyExtends [slv p ms.length cp, C.v] (fun R => ModelsAt R p ms ∧ WordAt R C.p C.w ∧ VarsOk R) (.bool true) := by
  refine Fn.of S_law30_AnalogyExtends mx [.p p, .i ms.length, .i cp, .p C.p, .i C.w.length, .i C.cap] rfl rfl fun c hp => ?_
  obtain ⟨hM, hC, hV⟩ := hp
  refine .join (fun us _ => ∃ x : Bool, us = [.b x] ∧ (x = false → ms.length < 2 ^ 62)) (.callM (c_few p cp ms hl') rfl rfl (fun g => hM.1.mono g.R) ?_) ?_
  · rintro v mq hf ⟨x, rfl, hx⟩
    refine ⟨[.b x], ⟨_, rfl⟩, rfl, .env (by (try simp only [liE, letsOf, letU, snd, List.append_nil]); rfl) (.ite (fun _ => .again rfl ⟨true, rfl, fun h => by cases h⟩) (fun hq => .chk (by ((try simp only [evE, liE, letsOf, letU, snd]); (try simp only [cmE])); omega) (.again rfl ⟨_, rfl, fun _ => by have := hx (by simpa [BT.eval, Env.bool] using hq); omega⟩)))⟩
  rintro _ m _ ⟨x, rfl, hl⟩
  refine .env (by (try simp only [liE, letsOf, letU, snd, List.append_nil]); rfl) (.ite (fun _ => .callV c_works (fun g => hV.mono g.R) (.ret rfl rfl)) (fun hq => ?_))
  replace hl := hl (by simpa [BT.eval, Env.bool] using hq)
  refine .callM (c_Extend p cp ms C hm hc oc hl) rfl rfl (fun g => ⟨hM.mono g.R, hC.mono g.R, hV.mono g.R⟩) ?_
  rintro v mq hf ⟨q, k, rfl, hr⟩
  have hlen : (extW ms C.w).1.length < 2 ^ 62 := by
    have key : ∀ (l : List (Option (List Snd))) (s : List Snd × Nat), s.1.length ≤ 32 → (l.foldl (stepE (votes ms C.w)) s).1.length ≤ 32 := fun l => by
      induction l with
      | nil => exact fun s hs => hs
      | cons o l ih => intro s hs; exact ih _ (stepE_len hs)
    have hb : (bestE ms ms C.w).1.length ≤ 32 := key _ _ (Nat.zero_le _)
    unfold extW
    split
    · simp
    · split
      · simp
      · show (bestE ms ms C.w).1.length < _; omega
  generalize he : extW ms C.w = r at *
  refine ⟨[.p q, .i r.1.length, .i k, .i r.2.1, .i r.2.2], uOk_of rfl, (ext_fresh _ _ _ _ _ _ _).symm, .env (by (try simp only [liE, letsOf, letU, snd, List.append_nil]); rfl) (.callM (c_refExtend p cp ms C hm hc oc hl) rfl rfl (fun g => ⟨hM.mono g.R, hC.mono g.R⟩) ?_)⟩
  rintro v mq2 hf2 ⟨q2, k2, rfl, hr2⟩
  rw [he] at hr2 ⊢
  refine ⟨[.p q2, .i r.1.length, .i k2, .i r.2.1, .i r.2.2], uOk_of rfl, (ext_fresh _ _ _ _ _ _ _).symm, .env (by (try simp only [liE, letsOf, letU, snd, List.append_nil]); rfl) ?_⟩
  have h1 := (hr.joinR (m := m) fun b hb => (hf b hb).1).joinL (mq := mq2)
  have h2 := hr2.joinR (m := m.join mq) fun b hb => (hf2 b hb).1
  refine .join (fun us _ => us = [.b true]) (.yes ?_ (.callV (c_refEqual q q2 k k2 r.1 r.1 hlen) (fun g => ⟨h1.reads g, h2.reads g⟩) (.env (by (try simp only [liE, letsOf, letU, snd, List.append_nil]); rfl) (.yes ?_ (.callV c_works (fun g => hV.mono g.R) (.again rfl rfl)))))) ?_
  · show (bif cm .eql r.2.1 r.2.1 then cm .eql r.2.2 r.2.2 else false) = true
    simp [cm]
  · rfl
  rintro _ _ _ rfl
  exact .ret rfl rfl
end Go.Proofs.YtpbbnmjkbfbelaaDoor
