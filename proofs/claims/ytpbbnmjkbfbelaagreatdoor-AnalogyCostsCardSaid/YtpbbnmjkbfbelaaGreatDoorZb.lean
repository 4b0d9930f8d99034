/- Chapter 30: the law of costs. -/
import Derived.Test.YtpbbnmjkbfbelaaGreatDoorZa
import Derived.Test.YtpbbnmjkbfbelaaGreatDoorTcCosts
set_option linter.unusedSimpArgs false
set_option linter.unusedVariables false
namespace Go.Proofs.YtpbbnmjkbfbelaaGreatDoor
open Go Go.Sy Go.RowKit
theorem c_few (p : Option Addr) (cp : Nat) (ms : List MD) (hl : ms.length ≤ maxLen) : FnM Tryz.prog n_law30_few [slv p ms.length cp] (fun R => Cells R p (mcells ms)) fun v _ _ => ∃ x : Bool, v = .bool x ∧ (x = true → ms.length ≤ 400) := by
  refine FnM.of S_law30_few mx [.p p, .i ms.length, .i cp] rfl rfl fun c hp => .chk (by ((try simp only [evE, liE, lO, lU, snd]); (try simp only [cmE])); omega) ?_
  refine .ite (fun h1 => .chk (by ((try simp only [evE, liE, lO, lU, snd]); (try simp only [cmE])); omega) (.ite (fun _ => .ret rfl ⟨false, rfl, fun h => by cases h⟩) (fun _ => .chk (by ((try simp only [evE, liE, lO, lU, snd]); (try simp only [cmE])); omega) (.ite (fun _ => .ret rfl ⟨false, rfl, fun h => by cases h⟩) (fun h4 => ?_))))) (fun h1 => .chk (by ((try simp only [evE, liE, lO, lU, snd]); (try simp only [cmE])); omega) (.ite (fun _ => .ret rfl ⟨false, rfl, fun h => by cases h⟩) (fun h4 => ?_))) <;>
  · ((try simp only [evE, liE, lO, lU, snd] at h4); (try simp only [cmE] at h4))
    have hl4 : ms.length ≤ 400 := by omega
    refine .loop (fun n us _ => ∃ (e : Bool) (j : Nat), us = [.b e, .i j] ∧ n + j = ms.length) ms.length ⟨false, 0, rfl, rfl⟩ ?_
    rintro n _ m _ ⟨e, j, rfl, hn⟩
    refine .env (by (try simp only [liE, lO, lU, snd, aN]); rfl) (.chk (by ((try simp only [evE, liE, lO, lU, snd]); (try simp only [cmE])); omega) (.ite (fun h2 => ?_) (fun h2 => .ret rfl ⟨_, rfl, fun _ => hl4⟩))) <;> ((try simp only [evE, liE, lO, lU, snd] at h2); (try simp only [cmE] at h2))
    have hj : j < ms.length := by omega
    have hcs := mcells_at ms j hj
    obtain ⟨b, o, hpe⟩ := (hp.some (i := j * 2) (by rw [mcells_len]; omega) : ∃ b o, p = some ⟨b, o, none⟩)
    subst hpe
    refine .join (fun us _ => ∃ x : Bool, us = [.b x]) (.chk (by ((try simp only [evE, liE, lO, lU, snd]); (try simp only [cmE])); simp; omega) (.chk (by ((try simp only [evE, liE, lO, lU, snd]); (try simp only [cmE])); simp; omega) (.loadS (mcells ms) (j * 2) ms[j].a.p ms[j].a.w.length ms[j].a.cap ?_ hcs.1 (fun g => hp.mono g.R) (.env (by (try simp only [liE, lO, lU, snd, aN]); rfl) (.chk (by ((try simp only [evE, liE, lO, lU, snd]); (try simp only [cmE])); omega) (.ite (fun _ => .again rfl ⟨true, rfl⟩) (fun _ => .chk (by ((try simp only [evE, liE, lO, lU, snd]); (try simp only [cmE])); simp; omega) (.chk (by ((try simp only [evE, liE, lO, lU, snd]); (try simp only [cmE])); simp; omega) (.loadS (mcells ms) (j * 2 + 1) ms[j].b.p ms[j].b.w.length ms[j].b.cap ?_ hcs.2 (fun g => hp.mono g.R) (.env (by (try simp only [liE, lO, lU, snd, aN]); rfl) (.chk (by ((try simp only [evE, liE, lO, lU, snd]); (try simp only [cmE])); omega) (.again rfl ⟨_, rfl⟩)))))))))))) ?_
    · simp only [IT.eval, Env.int]; simp
    · simp only [IT.eval, Env.int]; simp <;> omega
    rintro _ _ _ ⟨x, rfl⟩
    refine .env (by (try simp only [liE, lO, lU, snd, aN]); rfl) (.ite (fun _ => .ret rfl ⟨false, rfl, fun h => by cases h⟩) (fun _ => .again rfl ⟨n - 1, by omega, e, j + 1, ?_, by omega⟩))
    (simp only [evE, liE, lO, lU, snd, Sh.uss, Sh.us, atAddr, map_add0, List.append_nil]); rw [add_i64 j (by omega)]
theorem l_AnalogyCosts (p pc : Option Addr) (cp cc : Nat) (ms : List MD) (F G A : WD) (ws : List Int) (gap : Int) (hm : ModelsOk ms) (hf : Wok F.w) (hg : Wok G.w) (ha : Wok A.w) (of : F.ok) (hl' : ms.length ≤ maxLen) (h63 : F.w.length < 2 ^ 63 ∧ G.w.length < 2 ^ 63 ∧ A.w.length < 2 ^ 63) :
    RetP Tryz.prog n_law30_AnalogyCosts [.agg #[slv p ms.length cp, F.v, G.v, A.v, slv pc ws.length cc, .int .i64 gap]] (fun R => ModelsAt R p ms ∧ WordAt R F.p F.w ∧ WordAt R G.p G.w ∧ WordAt R A.p A.w ∧ CostsAt R pc ws ∧ VarsAll R) (.bool true) := by
  refine Fn.of S_law30_AnalogyCosts mx [.p p, .i ms.length, .i cp, .p F.p, .i F.w.length, .i F.cap, .p G.p, .i G.w.length, .i G.cap, .p A.p, .i A.w.length, .i A.cap, .p pc, .i ws.length, .i cc, .i gap] rfl rfl fun c hp => .alloc fun b0 => ?_
  obtain ⟨hM, hF, hG, hA, hC, hV⟩ := hp
  refine .join (fun us _ => ∃ x : Bool, us = [.b x] ∧ (x = false → ms.length ≤ 400 ∧ G.w.length ≤ 100)) (.callM (c_few p cp ms hl') rfl rfl (fun g => hM.1.mono g.R) ?_) ?_
  · rintro v mq hfr ⟨x, rfl, hx⟩
    refine ⟨[.b x], ⟨_, rfl⟩, rfl, .env (by (try simp only [liE, lO, lU, snd, aN]); rfl) (.ite (fun _ => .again rfl ⟨true, rfl, nofun⟩) (fun hq => .chk (by ((try simp only [evE, liE, lO, lU, snd]); (try simp only [cmE])); omega) (.ite (fun _ => .again rfl ⟨true, rfl, nofun⟩) (fun _ => .chk (by ((try simp only [evE, liE, lO, lU, snd]); (try simp only [cmE])); omega) (.ite (fun _ => .again rfl ⟨true, rfl, nofun⟩) (fun h3 => .chk (by ((try simp only [evE, liE, lO, lU, snd]); (try simp only [cmE])); omega) (.again rfl ⟨_, rfl, fun _ => ⟨hx (by simpa [BT.eval, Env.bool] using hq), ?_⟩⟩)))))))⟩
    ((try simp only [evE, liE, lO, lU, snd] at h3); (try simp only [cmE] at h3)); omega
  rintro _ _ _ ⟨x, rfl, hl⟩
  refine .env (by (try simp only [liE, lO, lU, snd, aN]); rfl) (.ite (fun _ => .callV c_works (fun g => hV.2.2.mono g.R) (.env (by (try simp only [liE, lO, lU, snd, aN]); rfl) (.ret rfl rfl))) (fun hq => ?_))
  obtain ⟨hl, hgl⟩ := hl (by simpa [BT.eval, Env.bool] using hq)
  refine .callV (c_costM p pc cp cc ms F G A ws gap hm hf hg ha of (by omega) (by omega)) (fun g => ⟨hM.mono g.R, hF.mono g.R, hG.mono g.R, hA.mono g.R, hC.mono g.R, hV.mono g.R⟩) (.env (by (try simp only [liE, lO, lU, snd, aN]); rfl) ?_)
  refine .callV (c_refCostM p pc cp cc ms F G A ws gap hm hf hg ha of (by omega) (by omega)) (fun g => ⟨hM.mono g.R, hF.mono g.R, hG.mono g.R, hA.mono g.R, hC.mono g.R⟩) (.env (by (try simp only [liE, lO, lU, snd, aN]); rfl) ?_)
  generalize costM ws gap ms F.w G.w A.w = r
  refine .join (fun us _ => us = [.b true]) (.yes ?_ (.callV c_works (fun g => hV.2.2.mono g.R) (.env (by (try simp only [liE, lO, lU, snd, aN]); rfl) (.again rfl rfl)))) ?_
  · show (bif cm .eql r.1 r.1 then cm .eql r.2 r.2 else false) = true
    simp [cm]
  rintro _ _ _ rfl
  exact .env (by (try simp only [liE, lO, lU, snd, aN]); rfl) (.ret rfl rfl)
end Go.Proofs.YtpbbnmjkbfbelaaGreatDoor
