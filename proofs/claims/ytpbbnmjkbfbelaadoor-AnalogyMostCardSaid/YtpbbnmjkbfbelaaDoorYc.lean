/- Chapter 30: the law AnalogySums. -/
import Derived.Test.YtpbbnmjkbfbelaaDoorYb
import Derived.Test.YtpbbnmjkbfbelaaDoorTcSums
set_option linter.unusedSimpArgs false
set_option linter.unusedVariables false
namespace Go.Proofs.YtpbbnmjkbfbelaaDoor
open Go Go.Sy Go.RowKit
theorem few_models {ms : List MD} {j : Nat} (hj : j < ms.length) (h : ∀ i (hi : i < ms.length), i < j → checkL [ms[i].a.w, ms[i].b.w] = 0) (h2 : checkL [ms[j].a.w, ms[j].b.w] = 0) : ∀ i (hi : i < ms.length), i < j + 1 → checkL [ms[i].a.w, ms[i].b.w] = 0 := fun i hi hij => by
  rcases Nat.lt_or_ge i j with h3 | h3
  · exact h i hi h3
  · obtain rfl : i = j := by omega
    exact h2
theorem chkM_ok {ms : List MD} {l : List (List Snd)} (h1 : ms.length ≤ 256) (h2 : ∀ i (hi : i < ms.length), checkL [ms[i].a.w, ms[i].b.w] = 0) (h3 : checkL l = 0) : chkM ms l = 0 := by
  unfold chkM
  rw [if_neg (by omega), checkL_append]
  have : checkL (mwords ms) = 0 := checkL_zero.2 fun w hw => by
    obtain ⟨x, hx, hw⟩ := List.mem_flatMap.1 hw
    obtain ⟨i, hi, rfl⟩ := List.getElem_of_mem hx
    exact checkL_zero.1 (h2 i hi) w hw
  rw [if_neg (by simp [this]), h3]
theorem checkL_four {a b c d : List Snd} (h1 : checkL [a, b] = 0) (h2 : checkL [c, d] = 0) : checkL [a, b, c, d] = 0 := by
  have := checkL_append [a, b] [c, d]
  rw [if_neg (by simp [h1]), h2] at this
  exact this
theorem find_snoc {α : Type} {p : α → Bool} {l : List α} {j : Nat} (hj : j < l.length) : (l.take (j + 1)).findIdx? p = ((l.take j).findIdx? p).or (if p l[j] then some j else none) := by
  rw [List.take_succ_eq_append_getElem hj, List.findIdx?_append]
  congr 1
  simp only [List.findIdx?_cons, List.findIdx?_nil, List.length_take, Nat.min_eq_left (Nat.le_of_lt hj)]
  split <;> simp
set_option maxHeartbeats 1000000 in
theorem l_AnalogySums (p : Option Addr) (cp : Nat) (ms : List MD) (C D : WD) (hm : ModelsOk ms) (hc : Wok C.w) (hd : Wok D.w) (oc : C.ok) (hl' : ms.length ≤ maxLen) : RetP Tryd.prog n_law30_AnalogySums [slv p ms.length cp, C.v, D.v] (fun R => ModelsAt R p ms ∧ WordAt R C.p C.w ∧ WordAt R D.p D.w ∧ VarsOk R) (.bool true) := by
  refine Fn.of S_law30_AnalogySums mx [.p p, .i ms.length, .i cp, .p C.p, .i C.w.length, .i C.cap, .p D.p, .i D.w.length, .i D.cap] rfl rfl fun c hp => ?_
  obtain ⟨hM, hC, hD, hV⟩ := hp
  refine .join (fun us _ => ∃ x : Bool, us = [.b x] ∧ (x = false → ms.length ≤ 12 ∧ checkL [C.w, D.w] = 0)) (.chk (by ((try simp only [evE, liE, letsOf, letU, snd]); (try simp only [cmE])); omega) (.ite (fun h1 => .again rfl ⟨true, rfl, fun h => by cases h⟩) (fun h1 => .alloc fun b0 => ?_))) ?_
  · ((try simp only [evE, liE, letsOf, letU, snd] at h1); (try simp only [cmE] at h1))
    refine .callV (c_good (some ⟨b0, 0, none⟩) 2 [C, D] (by simp [hc, hd]) (by simp)) (fun g => ⟨g.cells (j := 0) rfl rfl rfl, ?_⟩) (.env (by (try simp only [liE, letsOf, letU, snd, List.append_nil]); rfl) (.again rfl ⟨_, rfl, fun h => ⟨by omega, ?_⟩⟩))
    · simp only [List.mem_cons, List.not_mem_nil, or_false]
      rintro x (rfl | rfl)
      · exact hC.mono g.R
      · exact hD.mono g.R
    · replace h : (!decide (checkL [C.w, D.w] = 0)) = false := h
      simpa using h
  rintro _ m0 _ ⟨x, rfl, hx⟩
  refine .env (by (try simp only [liE, letsOf, letU, snd, List.append_nil]); rfl) (.ite (fun h1 => .callV c_works (fun g => hV.mono g.R) (.ret rfl rfl)) (fun h1 => ?_))
  obtain ⟨hl, hcd⟩ := hx (by simpa [BT.eval, Env.bool] using h1)
  refine .loop (fun n us _ => ∃ (e : Bool) (j : Nat), us = [.b e, .i j] ∧ n + j = ms.length ∧ ∀ i (hi : i < ms.length), i < j → checkL [ms[i].a.w, ms[i].b.w] = 0) ms.length ⟨false, 0, rfl, rfl, fun i hi h => by omega⟩ ?_
  rintro n _ m _ ⟨e, j, rfl, hn, hj0⟩
  refine .env (by (try simp only [liE, letsOf, letU, snd, List.append_nil]); rfl) (.chk (by ((try simp only [evE, liE, letsOf, letU, snd]); (try simp only [cmE])); omega) (.ite (fun h2 => ?_) (fun h2 => ?_))) <;> ((try simp only [evE, liE, letsOf, letU, snd] at h2); (try simp only [cmE] at h2))
  · have hj : j < ms.length := by omega
    have hcs := mcells_at ms j hj
    have hok := hm _ (List.getElem_mem hj)
    have hat := hM.2 _ (List.getElem_mem hj)
    obtain ⟨b, o, hpe⟩ := (hM.1.some (i := j * 2) (by rw [mcells_len]; omega) : ∃ b o, p = some ⟨b, o, none⟩)
    have k1 : ∀ ρ : Env, ρ.ptr 0 = p → ρ.int 1 = (ms.length : Int) → ρ.int 11 = (j : Int) → (BT.pick (.cmp .geq (.var 11) (.lit 0)) (.pick (.cmp .lss (.var 11) (.var 1)) (.some 0) (.lit false)) (.lit false)).eval ρ = true := fun ρ e1 e2 e3 => by
      simp only [BT.eval, IT.eval, e1, e2, e3, hpe, cm, pick_and]; simp; omega
    have k2 : ∀ ρ : Env, ρ.ptr 0 = p → ρ.int 11 = (j : Int) → (BT.pick (.cmp .geq (.off (.var 11) 2 (.lit 0)) (.lit 0)) (.some 0) (.lit false)).eval ρ = true := fun ρ e1 e3 => by
      simp only [BT.eval, IT.eval, e1, e3, hpe, cm, pick_and]; simp; omega
    refine .chk (k1 _ rfl rfl rfl) (.chk (k2 _ rfl rfl) (.loadS (mcells ms) (j * 2) ms[j].a.p ms[j].a.w.length ms[j].a.cap ?_ hcs.1 (fun g => hM.1.mono g.R) (.env (by (try simp only [liE, letsOf, letU, snd, List.append_nil]); rfl) (.chk (k1 _ rfl rfl rfl) (.chk (k2 _ rfl rfl) (.loadS (mcells ms) (j * 2 + 1) ms[j].b.p ms[j].b.w.length ms[j].b.cap ?_ hcs.2 (fun g => hM.1.mono g.R) (.env (by (try simp only [liE, letsOf, letU, snd, List.append_nil]); rfl) (.alloc fun b0 => ?_))))))))
    · simp only [IT.eval, Env.int]; simp
    · simp only [IT.eval, Env.int]; simp <;> omega
    refine .callV (c_good (some ⟨b0, 0, none⟩) 2 [ms[j].a, ms[j].b] (by simp [hok.1, hok.2.1]) (by simp)) (fun g => ⟨g.cells (j := 0) rfl rfl rfl, ?_⟩) (.env (by (try simp only [liE, letsOf, letU, snd, List.append_nil]); rfl) (.ite (fun h3 => .callV c_works (fun g => hV.mono g.R) (.ret rfl rfl)) (fun h3 => .again rfl ⟨n - 1, by omega, e, j + 1, ?_, by omega, few_models hj hj0 ?_⟩)))
    · simp only [List.mem_cons, List.not_mem_nil, or_false]
      rintro x (rfl | rfl)
      · exact hat.1.mono g.R
      · exact hat.2.mono g.R
    · (simp only [evE, liE, letsOf, letU, snd, Sh.uss, Sh.us, atAddr, map_add0, List.append_nil]); rw [add_i64 j (by omega)]
    · replace h3 : (!decide (checkL [ms[j].a.w, ms[j].b.w] = 0)) = false := h3
      simpa using h3
  have hall : ∀ i (hi : i < ms.length), checkL [ms[i].a.w, ms[i].b.w] = 0 := fun i hi => hj0 i hi (by omega)
  clear hj0 h2
  have h0 : chkM ms [C.w, D.w] = 0 := chkM_ok (by omega) hall hcd
  refine .loop (fun n us _ => ∃ (e : Bool) (f : Int) (j : Nat), us = [.b e, .i ((ms.take j).countP (supM C.w D.w) : Nat), .i f, .i j] ∧ n + j = ms.length ∧ f = (match (ms.take j).findIdx? (supM C.w D.w) with | some i => (i : Int) | none => -1)) ms.length ⟨e, -1, 0, by (simp only [evE, liE, letsOf, letU, snd, Sh.uss, Sh.us, atAddr, map_add0, List.append_nil]); rfl, rfl, rfl⟩ ?_
  rintro n _ m2 _ ⟨e2, f, j, rfl, hn, hf⟩
  refine .env (by (try simp only [liE, letsOf, letU, snd, List.append_nil]); rfl) (.chk (by ((try simp only [evE, liE, letsOf, letU, snd]); (try simp only [cmE])); omega) (.ite (fun h2 => ?_) (fun h2 => ?_))) <;> ((try simp only [evE, liE, letsOf, letU, snd] at h2); (try simp only [cmE] at h2))
  · have hj : j < ms.length := by omega
    have hcs := mcells_at ms j hj
    have hok := hm _ (List.getElem_mem hj)
    have hat := hM.2 _ (List.getElem_mem hj)
    obtain ⟨b, o, hpe⟩ := (hM.1.some (i := j * 2) (by rw [mcells_len]; omega) : ∃ b o, p = some ⟨b, o, none⟩)
    have k1 : ∀ ρ : Env, ρ.ptr 0 = p → ρ.int 1 = (ms.length : Int) → ρ.int 15 = (j : Int) → (BT.pick (.cmp .geq (.var 15) (.lit 0)) (.pick (.cmp .lss (.var 15) (.var 1)) (.some 0) (.lit false)) (.lit false)).eval ρ = true := fun ρ e1 e2 e3 => by
      simp only [BT.eval, IT.eval, e1, e2, e3, hpe, cm, pick_and]; simp; omega
    have k2 : ∀ ρ : Env, ρ.ptr 0 = p → ρ.int 15 = (j : Int) → (BT.pick (.cmp .geq (.off (.var 15) 2 (.lit 0)) (.lit 0)) (.some 0) (.lit false)).eval ρ = true := fun ρ e1 e3 => by
      simp only [BT.eval, IT.eval, e1, e3, hpe, cm, pick_and]; simp; omega
    have h4 : holdsW ms[j].a.w ms[j].b.w C.w D.w = (supM C.w D.w ms[j], 0) := by unfold holdsW; rw [if_neg (by simp [checkL_four (hall j hj) hcd])]; rfl
    have hcl : (ms.take j).countP (supM C.w D.w) ≤ j := Nat.le_trans (List.countP_le_length) (by simp; omega)
    have hcn : (ms.take (j + 1)).countP (supM C.w D.w) = (ms.take j).countP (supM C.w D.w) + if supM C.w D.w ms[j] then 1 else 0 := by
      rw [List.take_succ_eq_append_getElem hj, List.countP_append]; simp [List.countP_cons]
    have hfn := find_snoc (p := supM C.w D.w) hj
    have ch := c_Holds ms[j].a ms[j].b C D hok.1 hok.2.1 hc hd hok.2.2.1 hok.2.2.2 oc
    rw [h4] at ch
    generalize supM C.w D.w ms[j] = x at *
    refine .chk (k1 _ rfl rfl rfl) (.chk (k2 _ rfl rfl) (.loadS (mcells ms) (j * 2) ms[j].a.p ms[j].a.w.length ms[j].a.cap ?_ hcs.1 (fun g => hM.1.mono g.R) (.env (by (try simp only [liE, letsOf, letU, snd, List.append_nil]); rfl) (.chk (k1 _ rfl rfl rfl) (.chk (k2 _ rfl rfl) (.loadS (mcells ms) (j * 2 + 1) ms[j].b.p ms[j].b.w.length ms[j].b.cap ?_ hcs.2 (fun g => hM.1.mono g.R) (.env (by (try simp only [liE, letsOf, letU, snd, List.append_nil]); rfl) ?_)))))))
    · simp only [IT.eval, Env.int]; simp
    · simp only [IT.eval, Env.int]; simp <;> omega
    refine .callV ch (fun g => ⟨hat.1.mono g.R, hat.2.mono g.R, hC.mono g.R, hD.mono g.R, hV.mono g.R⟩) (.env (by (try simp only [liE, letsOf, letU, snd, List.append_nil]); rfl) (.no rfl ?_))
    refine .join (fun us _ => ∃ f : Int, us = [.i ((ms.take (j + 1)).countP (supM C.w D.w) : Nat), .i f] ∧ f = (match (ms.take (j + 1)).findIdx? (supM C.w D.w) with | some i => (i : Int) | none => -1)) (.ite (fun h3 => ?_) (fun h3 => .again rfl ⟨f, ?_, ?_⟩)) ?_
    · replace h3 : x = true := h3
      subst h3
      refine .join (fun us _ => us = [.i (match (ms.take (j + 1)).findIdx? (supM C.w D.w) with | some i => (i : Int) | none => -1)]) (.ite (fun h4 => .again rfl ?_) (fun h4 => .again rfl ?_)) ?_
      · ((try simp only [evE, liE, letsOf, letU, snd] at h4); (try simp only [cmE] at h4))
        rw [hfn]
        cases hq : (ms.take j).findIdx? (supM C.w D.w) with
        | none => rfl
        | some i => rw [hq] at hf; simp at hf; omega
      · ((try simp only [evE, liE, letsOf, letU, snd] at h4); (try simp only [cmE] at h4))
        rw [hfn]
        cases hq : (ms.take j).findIdx? (supM C.w D.w) with
        | none => rw [hq] at hf; simp at hf; omega
        | some i => rw [hq] at hf; (simp only [evE, liE, letsOf, letU, snd, Sh.uss, Sh.us, atAddr, map_add0, List.append_nil]); rw [hf]; rfl
      rintro _ _ _ rfl
      refine .env (by (try simp only [liE, letsOf, letU, snd, List.append_nil]); rfl) (.again rfl ⟨_, ?_, rfl⟩)
      (simp only [evE, liE, letsOf, letU, snd, Sh.uss, Sh.us, atAddr, map_add0, List.append_nil]); rw [add_i64 _ (by omega), hcn]; rfl
    · replace h3 : x = false := h3
      subst h3
      (simp only [evE, liE, letsOf, letU, snd, Sh.uss, Sh.us, atAddr, map_add0, List.append_nil]); rw [hcn]; rfl
    · replace h3 : x = false := h3
      subst h3
      rw [hf, hfn]
      cases (ms.take j).findIdx? (supM C.w D.w) <;> rfl
    rintro _ _ _ ⟨f2, rfl, hf2⟩
    refine .env (by (try simp only [liE, letsOf, letU, snd, List.append_nil]); rfl) (.again rfl ⟨n - 1, by omega, e2, f2, j + 1, ?_, by omega, hf2⟩)
    (simp only [evE, liE, letsOf, letU, snd, Sh.uss, Sh.us, atAddr, map_add0, List.append_nil]); rw [add_i64 j (by omega)]
  rw [List.take_of_length_le (by omega)] at hf ⊢
  refine .callV (c_Count p cp ms C D hm hc hd oc (by omega)) (fun g => ⟨hM.mono g.R, hC.mono g.R, hD.mono g.R, hV.mono g.R⟩) (.env (by (try simp only [liE, letsOf, letU, snd, List.append_nil]); rfl) (.callV (c_Explain p cp ms C D hm hc hd oc (by omega)) (fun g => ⟨hM.mono g.R, hC.mono g.R, hD.mono g.R, hV.mono g.R⟩) (.env (by (try simp only [liE, letsOf, letU, snd, List.append_nil]); rfl) ?_)))
  have e1 : countW ms C.w D.w = (((ms.countP (supM C.w D.w) : Nat) : Int), 0) := by unfold countW; rw [if_neg (by simp [h0])]
  have e2' : explW ms C.w D.w = foundW (ms.findIdx? (supM C.w D.w)) := by unfold explW; rw [if_neg (by simp [h0])]
  rw [e1, e2']
  refine .join (fun us _ => us = [.b true]) (.yes ?_ (.callV c_works (fun g => hV.mono g.R) (.again rfl rfl))) ?_
  · cases hq : ms.findIdx? (supM C.w D.w) with
    | none =>
      rw [hq] at hf
      subst hf
      show (bif (bif (bif (bif cm .eql 0 0 then cm .eql 0 0 else false) then cm .eql ((ms.countP (supM C.w D.w) : Nat) : Int) ((ms.countP (supM C.w D.w) : Nat) : Int) else false) then (false == cm .geq (-1) 0) else false) then cm .eql 0 (if (0 : Int) > -1 then 0 else -1) else false) = true
      simp [cm]
    | some i =>
      rw [hq] at hf
      subst hf
      show (bif (bif (bif (bif cm .eql 0 0 then cm .eql 0 0 else false) then cm .eql ((ms.countP (supM C.w D.w) : Nat) : Int) ((ms.countP (supM C.w D.w) : Nat) : Int) else false) then (true == cm .geq (i : Int) 0) else false) then cm .eql (i : Int) (if (0 : Int) > (i : Int) then 0 else (i : Int)) else false) = true
      rw [if_neg (by omega)]
      simp [cm]
  rintro _ _ _ rfl
  exact .ret rfl rfl
end Go.Proofs.YtpbbnmjkbfbelaaDoor
