/- Chapter 30: the law AnalogySolves. -/
import Derived.Test.YtpbbnmjkbfbelaaDoorYb
import Derived.Test.YtpbbnmjkbfbelaaDoorTcSolves
set_option linter.unusedSimpArgs false
set_option linter.unusedVariables false
namespace Go.Sy
open Go Go.RowKit
/-- A word stays, if what is stored into is not its block. -/
theorem RowW.keepB {m m' : Mem} {et : TypeId} {q : Option Addr} {cap : Nat} {w : List Snd} {g : Nat} (h : RowW m et q cap w) (hg : w ≠ [] → q ≠ some ⟨g, 0, none⟩) (hk : ∀ b, b ≠ g → m' b = m b) : RowW m' et q cap w :=
  ⟨fun hw => (h.row hw).keep fun b hb _ => hk b fun e => hg hw (e ▸ hb), h.nil, h.le⟩
/-- A word's block is not one that is not there yet. -/
theorem RowW.ne {m : Mem} {et : TypeId} {q : Option Addr} {cap : Nat} {w : List Snd} {g : Nat} (h : RowW m et q cap w) (hg : m g = none) : w ≠ [] → q ≠ some ⟨g, 0, none⟩ := fun hw e => by
  obtain ⟨cur, hc⟩ := (h.row hw).at_cells e
  rw [hg] at hc; cases hc
theorem RowW.there {m : Mem} {et : TypeId} {q : Option Addr} {cap : Nat} {w : List Snd} {g : Nat} (h : RowW m et q cap w) (hw : w ≠ []) (e : q = some ⟨g, 0, none⟩) : m g ≠ none := fun hg => h.ne hg hw e
end Go.Sy
namespace Go.Proofs.YtpbbnmjkbfbelaaDoor
open Go Go.Sy Go.RowKit
set_option maxHeartbeats 1000000 in
theorem l_AnalogySolves (A B C : WD) (ha : Wok A.w) (hb : Wok B.w) (hc : Wok C.w) (oa : A.ok) (ob : B.ok) (oc : C.ok) : RetP Tryd.prog n_law30_AnalogySolves [A.v, B.v, C.v] (fun R => WordAt R A.p A.w ∧ WordAt R B.p B.w ∧ WordAt R C.p C.w ∧ VarsOk R) (.bool true) := by
  refine Fn.of S_law30_AnalogySolves mx [.p A.p, .i A.w.length, .i A.cap, .p B.p, .i B.w.length, .i B.cap, .p C.p, .i C.w.length, .i C.cap] rfl rfl fun c hp => ?_
  obtain ⟨hA, hB, hC, hV⟩ := hp
  refine .chk (by ((try simp only [evE, liE, letsOf, letU, snd]); (try simp only [cmE])); omega) (.ite (fun _ => .callV c_works (fun g => hV.mono g.R) (.ret rfl rfl)) (fun h1 => .chk (by ((try simp only [evE, liE, letsOf, letU, snd]); (try simp only [cmE])); omega) (.ite (fun _ => .callV c_works (fun g => hV.mono g.R) (.ret rfl rfl)) (fun h2 => .chk (by ((try simp only [evE, liE, letsOf, letU, snd]); (try simp only [cmE])); omega) (.ite (fun _ => .callV c_works (fun g => hV.mono g.R) (.ret rfl rfl)) (fun h3 => ?_))))))
  ((try simp only [evE, liE, letsOf, letU, snd] at h1); (try simp only [cmE] at h1)); ((try simp only [evE, liE, letsOf, letU, snd] at h2); (try simp only [cmE] at h2)); ((try simp only [evE, liE, letsOf, letU, snd] at h3); (try simp only [cmE] at h3))
  refine .callM (c_refCopy C.p C.cap C.w (by omega)) rfl rfl (fun g => hC.mono g.R) ?_
  rintro v mq hf ⟨qw, kw, rfl, rw'⟩
  have hw := (RowW.of rw').joinR (m := Mem.emp) fun b _ => rfl
  clear rw'
  refine ⟨[.p qw, .i (C.w.length : Nat), .i kw], ⟨_, _, _, rfl⟩, (slv_fresh _ _ _ _ _).symm, .env (by (try simp only [liE, letsOf, letU, snd, List.append_nil]); rfl) ?_⟩
  generalize Mem.emp.join mq = m1 at *
  clear hf
  have cS := c_Solve A B C ha hb hc oa ob oc
  have cS' := c_refSolve A B C ha hb hc oa ob oc
  have cF := c_Front A B C ha hb hc oa ob oc
  have cF' := c_refFront A B C ha hb hc
  have hXl : (oneW A.w B.w C.w (solveW A.w B.w C.w)).1.length ≤ 32 := by unfold oneW; split <;> (try split) <;> simp_all <;> omega
  have hUl : (oneW A.w B.w C.w (frontW A.w B.w C.w)).1.length ≤ 32 := by unfold oneW; split <;> (try split) <;> simp_all <;> omega
  generalize oneW A.w B.w C.w (solveW A.w B.w C.w) = X at *
  generalize oneW A.w B.w C.w (frontW A.w B.w C.w) = U at *
  refine .callM cS rfl rfl (fun g => ⟨hA.mono g.R, hB.mono g.R, hC.mono g.R, hV.mono g.R⟩) ?_
  rintro v mq hf ⟨qx, kx, rfl, rx⟩
  have hx := rx.joinR (m := m1) fun b hb => (hf b hb).1
  have nx : ∀ g, X.1 ≠ [] → qx = some ⟨g, 0, none⟩ → m1 g = none := fun g h e => (hf g (rx.there h e)).1
  have k2 : ∀ b, m1 b ≠ none → (m1.join mq) b = m1 b := fun b hb => Mem.join_old hb
  refine ⟨[.p qx, .i (X.1.length : Nat), .i kx, .b X.2.1, .i X.2.2], uOk_of rfl, (res3_fresh _ _ _ _ _ _ _).symm, .env (by (try simp only [liE, letsOf, letU, snd, List.append_nil]); rfl) ?_⟩
  generalize m1.join mq = m2 at *
  clear hf rx
  refine .callM cS' rfl rfl (fun g => ⟨hA.mono g.R, hB.mono g.R, hC.mono g.R⟩) ?_
  rintro v mq hf ⟨qy, ky, rfl, ry⟩
  have hy := ry.joinR (m := m2) fun b hb => (hf b hb).1
  have k3 : ∀ b, m1 b ≠ none → (m2.join mq) b = m1 b := fun b hb => by rw [Mem.join_old (by rw [k2 b hb]; exact hb), k2 b hb]
  replace hx := hx.joinL (mq := mq)
  refine ⟨[.p qy, .i (X.1.length : Nat), .i ky, .b X.2.1, .i X.2.2], uOk_of rfl, (res3_fresh _ _ _ _ _ _ _).symm, .env (by (try simp only [liE, letsOf, letU, snd, List.append_nil]); rfl) ?_⟩
  generalize m2.join mq = m3 at *
  clear hf ry k2
  refine .callM cF rfl rfl (fun g => ⟨hA.mono g.R, hB.mono g.R, hC.mono g.R, hV.mono g.R⟩) ?_
  rintro v mq hf ⟨qu, ku, rfl, ru⟩
  have hu := ru.joinR (m := m3) fun b hb => (hf b hb).1
  have nu : ∀ g, U.1 ≠ [] → qu = some ⟨g, 0, none⟩ → m1 g = none ∧ (X.1 ≠ [] → qx ≠ some ⟨g, 0, none⟩) := fun g h e => by
    have h3 := (hf g (ru.there h e)).1
    refine ⟨?_, fun hxn ex => hx.there hxn ex h3⟩
    cases h1 : m1 g with
    | none => rfl
    | some o => rw [k3 g (by rw [h1]; simp), h1] at h3; cases h3
  have k4 : ∀ b, m1 b ≠ none → (m3.join mq) b = m1 b := fun b hb => by rw [Mem.join_old (by rw [k3 b hb]; exact hb), k3 b hb]
  replace hx := hx.joinL (mq := mq)
  replace hy := hy.joinL (mq := mq)
  refine ⟨[.p qu, .i (U.1.length : Nat), .i ku, .b U.2.1, .i U.2.2], uOk_of rfl, (res3_fresh _ _ _ _ _ _ _).symm, .env (by (try simp only [liE, letsOf, letU, snd, List.append_nil]); rfl) ?_⟩
  generalize m3.join mq = m4 at *
  clear hf ru k3
  refine .callM cF' rfl rfl (fun g => ⟨hA.mono g.R, hB.mono g.R, hC.mono g.R⟩) ?_
  rintro v mq hf ⟨qv, kv, rfl, rv⟩
  have hv := rv.joinR (m := m4) fun b hb => (hf b hb).1
  have k5 : ∀ b, m1 b ≠ none → (m4.join mq) b = m1 b := fun b hb => by rw [Mem.join_old (by rw [k4 b hb]; exact hb), k4 b hb]
  replace hx := hx.joinL (mq := mq)
  replace hy := hy.joinL (mq := mq)
  replace hu := hu.joinL (mq := mq)
  refine ⟨[.p qv, .i (U.1.length : Nat), .i kv, .b U.2.1, .i U.2.2], uOk_of rfl, (res3_fresh _ _ _ _ _ _ _).symm, .env (by (try simp only [liE, letsOf, letU, snd, List.append_nil]); rfl) ?_⟩
  generalize m4.join mq = m5 at *
  clear hf rv k4
  refine .no ?_ (.callV (c_refEqual qx qy kx ky X.1 X.1 (by omega)) (fun g => ⟨hx.reads g, hy.reads g⟩) (.env (by (try simp only [liE, letsOf, letU, snd, List.append_nil]); rfl) (.no ?_ (.callV (c_refEqual qu qv ku kv U.1 U.1 (by omega)) (fun g => ⟨hu.reads g, hv.reads g⟩) (.env (by (try simp only [liE, letsOf, letU, snd, List.append_nil]); rfl) (.no ?_ ?_))))))
  · show (bif (bif (bif !(X.2.1 == X.2.1) then true else cm .neq X.2.2 X.2.2) then true else !(U.2.1 == U.2.1)) then true else cm .neq U.2.2 U.2.2) = false
    simp [cm]
  · rfl
  · rfl
  clear hy hv cS cS' cF cF'
  refine .loop (fun n us mm => ∃ (j : Nat) (l : List Snd), us = [.i j] ∧ n + j = X.1.length ∧ l.length = X.1.length ∧ RowW mm 31 qx kx l ∧ RowW mm 31 qu ku U.1 ∧ ∀ b, m1 b ≠ none → mm b = m1 b) X.1.length ⟨0, X.1, rfl, rfl, rfl, hx, hu, k5⟩ ?_
  clear hx hu k5
  rintro n _ m _ ⟨j, l, rfl, hn, hl, hx, hu, hk⟩
  refine .env (by (try simp only [liE, letsOf, letU, snd, List.append_nil]); rfl) (.chk (by ((try simp only [evE, liE, letsOf, letU, snd]); (try simp only [cmE])); omega) (.ite (fun h4 => ?_) (fun h4 => ?_))) <;> ((try simp only [evE, liE, letsOf, letU, snd] at h4); (try simp only [cmE] at h4))
  · have hj : j < l.length := by omega
    have hne : l ≠ [] := fun h => by rw [h] at hj; simp at hj
    have hXn : X.1 ≠ [] := fun h => by rw [h] at hl; rw [hl] at hj; simp at hj
    refine .storeS j (0, 0) hj (hx.row hne) rfl rfl (fun m' g e hr ho => .again rfl ⟨n - 1, by omega, j + 1, l.set j (0, 0), ?_, by omega, by rw [List.length_set, hl], .of (by rw [List.length_set]; exact hr), hu.keepB (fun hUn eu => (nu g hUn eu).2 hXn e) ho, fun b hb => by rw [ho b (fun h => hb (by rw [h]; exact nx g hXn e)), hk b hb]⟩) (hn := by rw [hl]; rfl)
    (simp only [evE, liE, letsOf, letU, snd, Sh.uss, Sh.us, atAddr, map_add0, List.append_nil]); rw [add_i64 j (by omega)]
  refine .loop (fun n us mm => ∃ (j : Nat) (l : List Snd), us = [.i j] ∧ n + j = U.1.length ∧ l.length = U.1.length ∧ RowW mm 31 qu ku l ∧ ∀ b, m1 b ≠ none → mm b = m1 b) U.1.length ⟨0, U.1, rfl, rfl, rfl, hu, hk⟩ ?_
  clear hx hu hk
  rintro n _ m _ ⟨j, l, rfl, hn, hl, hu, hk⟩
  refine .env (by (try simp only [liE, letsOf, letU, snd, List.append_nil]); rfl) (.chk (by ((try simp only [evE, liE, letsOf, letU, snd]); (try simp only [cmE])); omega) (.ite (fun h4 => ?_) (fun h4 => ?_))) <;> ((try simp only [evE, liE, letsOf, letU, snd] at h4); (try simp only [cmE] at h4))
  · have hj : j < l.length := by omega
    have hne : l ≠ [] := fun h => by rw [h] at hj; simp at hj
    have hUn : U.1 ≠ [] := fun h => by rw [h] at hl; rw [hl] at hj; simp at hj
    refine .storeS j (0, 0) hj (hu.row hne) rfl rfl (fun m' g e hr ho => .again rfl ⟨n - 1, by omega, j + 1, l.set j (0, 0), ?_, by omega, by rw [List.length_set, hl], .of (by rw [List.length_set]; exact hr), fun b hb => by rw [ho b (fun h => hb (by rw [h]; exact (nu g hUn e).1)), hk b hb]⟩) (hn := by rw [hl]; rfl)
    (simp only [evE, liE, letsOf, letU, snd, Sh.uss, Sh.us, atAddr, map_add0, List.append_nil]); rw [add_i64 j (by omega)]
  have hw2 := hw.keep hk
  refine .callV (c_refEqual C.p qw C.cap kw C.w C.w (by omega)) (fun g => ⟨hC.mono g.R, hw2.reads g⟩) (.env (by (try simp only [liE, letsOf, letU, snd, List.append_nil]); rfl) (.yes ?_ (.callV c_works (fun g => hV.mono g.R) (.ret rfl rfl))))
  rfl
end Go.Proofs.YtpbbnmjkbfbelaaDoor
