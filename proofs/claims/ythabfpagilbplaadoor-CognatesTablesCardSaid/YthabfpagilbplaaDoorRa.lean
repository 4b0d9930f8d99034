/- Chapter 19: the laws Compares and Labels. -/
import Derived.Test.YthabfpagilbplaaDoorBh
import Derived.Test.YthabfpagilbplaaDoorTcCompares
import Derived.Test.YthabfpagilbplaaDoorTcLabels
set_option linter.unusedSimpArgs false
set_option linter.unusedVariables false
namespace Go.Proofs.YthabfpagilbplaaDoor
open Go Go.Sy Go.RowKit
theorem c_few (p : Option Addr) (cp : Nat) (l : List FD) (pc : Option Addr) (cc : Nat) (ws : List Int) (gap : Int) (hl : l.length < 2 ^ 63) : FnM Tryd.prog n_law19_few [slv p l.length cp, costs pc ws.length cc gap] (fun R => FormsAt R p l) fun v _ _ => ∃ b, v = .bool b := by
  refine FnM.of S_law19_few mx [.p p, .i l.length, .i cp, .p pc, .i ws.length, .i cc, .i gap] rfl rfl fun c hp => .alloc fun b0 => .chk (by ((try simp only [evE, liE, letsOf, letU, snd]); (try simp only [cmE])); omega) ?_
  refine .loop (fun n us m => ∃ (e : Bool) (s : Int) (j : Nat), j ≤ l.length ∧ n = l.length - j ∧ us = [.b e, .i s, .i j]) l.length ⟨false, 0, 0, Nat.zero_le _, rfl, rfl⟩ ?_
  rintro n us m _ ⟨e, s, j, hj, rfl, rfl⟩
  refine .env (by (try simp only [liE, letsOf, letU, snd, List.append_nil]); rfl) (.ite (fun h1 => ?_) (fun h1 => .chk (by ((try simp only [evE, liE, letsOf, letU, snd]); (try simp only [cmE])); omega) (.ite (fun h2 => .chk (by ((try simp only [evE, liE, letsOf, letU, snd]); (try simp only [cmE])); omega) (.ret rfl ⟨_, rfl⟩)) (fun h2 => .ret rfl ⟨_, rfl⟩)))) <;> ((try simp only [evE, liE, letsOf, letU, snd] at h1); (try simp only [cmE] at h1))
  have hj : j < l.length := by omega
  refine .loadFD l j hj (fun g => hp.1.mono g.R) (.alloc fun b2 => .env (by (try simp only [liE, letsOf, letU, snd, List.append_nil]); rfl) (.chk (by ((try simp only [evE, liE, letsOf, letU, snd]); (try simp only [cmE])); omega) (.ite (fun h2 => .ret rfl ⟨_, rfl⟩) (fun h2 => .chk (by ((try simp only [evE, liE, letsOf, letU, snd]); (try simp only [cmE])); omega) (.again rfl ⟨l.length - (j + 1), by omega, e, ar .add .i64 s (l[j].w.w.length : Int), j + 1, by omega, rfl, ?_⟩)))))
  (simp only [evE, liE, letsOf, letU, snd, Sh.uss, Sh.us, atAddr, map_add0, List.append_nil]); rw [add_i64 j (by omega)]
end Go.Proofs.YthabfpagilbplaaDoor
