/- Chapter 30: Explain and Count, of both. -/
import Derived.Test.YtpbbnmjkbfbelaaDoorJj
set_option linter.unusedSimpArgs false
set_option linter.unusedVariables false
namespace Go.Proofs.YtpbbnmjkbfbelaaDoor
open Go Go.Sy Go.RowKit
theorem c_index (p : Option Addr) (cp : Nat) (ms : List MD) (fv : Value) (hfv : fv.oneCell' = true) (f : MD → Bool) (pre : Mv → Prop) (hpre : ∀ R S : Mv, R.le S → pre R → pre S) (hl : ms.length < 2 ^ 62) (hf : ∀ x ∈ ms, FnV Tryd.prog fv [.agg #[x.a.v, x.b.v]] pre fun v _ _ => v = .bool (f x)) :
    RetP Tryd.prog n_slices_IndexFunc___api_Pair_api_Pair_ [slv p ms.length cp, fv] (fun R => ModelsAt R p ms ∧ pre R) (.int .i64 (match ms.findIdx? f with | some i => (i : Int) | none => -1)) := by
  refine Fn.of S_slices_IndexFunc___api_Pair_api_Pair_ mx [.p p, .i ms.length, .i cp, .v fv] (by simp [Sh.eats, Sh.eat, eatV, eatP, eatS, hfv]) rfl fun c hp => .chk (by ((try simp only [evE, liE, letsOf, letU, snd]); (try simp only [cmE])); omega) ?_
  refine .loop (fun n us _ => ∃ (e : Int) (j : Nat), us = [.i e, .i j] ∧ n + j = ms.length ∧ ∀ i (hi : i < ms.length), i < j → f ms[i] = false) ms.length ⟨0, 0, rfl, rfl, fun i hi h => by omega⟩ ?_
  rintro n _ m _ ⟨e, j, rfl, hn, hb⟩
  refine .env (by (try simp only [liE, letsOf, letU, snd, List.append_nil]); rfl) (.ite (fun h2 => ?_) (fun h2 => .ret rfl ?_)) <;> ((try simp only [evE, liE, letsOf, letU, snd] at h2); (try simp only [cmE] at h2))
  · have hj : j < ms.length := by omega
    refine .loadMD ms j hj (fun g => hp.1.1.mono g.R) (.env (by (try simp only [liE, letsOf, letU, snd, List.append_nil]); rfl) (.callvR (hf _ (List.getElem_mem hj)) (fun g => hpre _ _ g.R hp.2) (fun m' _ => .env (by (try simp only [liE, letsOf, letU, snd, List.append_nil]); rfl) (.ite (fun h3 => .ret rfl ?_) (fun h3 => .again rfl ⟨n - 1, by omega, e, j + 1, ?_, by omega, ?_⟩)))))
    · replace h3 : f ms[j] = true := h3
      rw [findIdx?_at hj h3 hb]; rfl
    · (simp only [evE, liE, letsOf, letU, snd, Sh.uss, Sh.us, atAddr, map_add0, List.append_nil]); rw [add_i64 j (by omega)]
    · replace h3 : f ms[j] = false := h3
      intro i hi hij
      rcases Nat.lt_or_ge i j with h | h
      · exact hb i hi h
      · have : i = j := by omega
        subst this; exact h3
  · rw [findIdx?_none fun i hi => hb i hi (by omega)]; rfl
def ExpAt (C D : WD) (ms : List MD) (b0 b1 : Nat) (R : Mv) : Prop := Cells R (some ⟨b0, 0, none⟩) [C.v] ∧ Cells R (some ⟨b1, 0, none⟩) [D.v] ∧ WordAt R C.p C.w ∧ WordAt R D.p D.w ∧ (∀ x ∈ ms, WordAt R x.a.p x.a.w ∧ WordAt R x.b.p x.b.w) ∧ VarsOk R
theorem c_exp1 (C D : WD) (ms : List MD) (b0 b1 : Nat) (x : MD) (hx : x ∈ ms) (oa : x.a.ok) (ob : x.b.ok) (oc : C.ok) (la : x.a.w.length < 2 ^ 38) (lb : x.b.w.length < 2 ^ 38) (lc : C.w.length < 2 ^ 38) (ld : D.w.length < 2 ^ 38) :
    FnM Tryd.prog n_analogy_Explain_1 ([.agg #[x.a.v, x.b.v]] ++ [.pointer (some ⟨b0, 0, none⟩), .pointer (some ⟨b1, 0, none⟩)]) (ExpAt C D ms b0 b1) fun v _ _ => v = .bool (supM C.w D.w x) := by
  refine Fn.of S_analogy_Explain_1 mx [.p x.a.p, .i x.a.w.length, .i x.a.cap, .p x.b.p, .i x.b.w.length, .i x.b.cap, .p (some ⟨b0, 0, none⟩), .p (some ⟨b1, 0, none⟩)] rfl rfl fun c hp => .alloc fun a0 => ?_
  obtain ⟨h0, h1, hC, hD, hm, hV⟩ := hp
  refine .loadS [C.v] 0 C.p C.w.length C.cap rfl rfl (fun g => h0.mono g.R) (.env (by (try simp only [liE, letsOf, letU, snd, List.append_nil]); rfl) (.loadS [D.v] 0 D.p D.w.length D.cap rfl rfl (fun g => h1.mono g.R) (.env (by (try simp only [liE, letsOf, letU, snd, List.append_nil]); rfl) (.callV (c_supports x.a x.b C D oa ob oc la lb lc ld) (fun g => ⟨(hm x hx).1.mono g.R, (hm x hx).2.mono g.R, hC.mono g.R, hD.mono g.R, hV.mono g.R⟩) (.ret rfl rfl)))))
theorem c_Explain (p : Option Addr) (cp : Nat) (ms : List MD) (C D : WD) (hm : ModelsOk ms) (hc : Wok C.w) (hd : Wok D.w) (oc : C.ok) (hl : ms.length < 2 ^ 62) : RetP Tryd.prog n_analogy_Explain [slv p ms.length cp, C.v, D.v] (fun R => ModelsAt R p ms ∧ WordAt R C.p C.w ∧ WordAt R D.p D.w ∧ VarsOk R) (.tuple #[.int .i64 (explW ms C.w D.w).1, .bool (explW ms C.w D.w).2.1, .int .i64 (explW ms C.w D.w).2.2]) := by
  refine Fn.of S_analogy_Explain mx [.p p, .i ms.length, .i cp, .p C.p, .i C.w.length, .i C.cap, .p D.p, .i D.w.length, .i D.cap] rfl rfl fun c hp => .alloc fun b0 => .alloc fun b1 => .alloc fun b2 => ?_
  obtain ⟨hM, hC, hD, hV⟩ := hp
  refine .callV (c_check p cp ms (some ⟨b2, 0, none⟩) 2 [C, D] hm (by simp [hc, hd]) (by simp)) (fun g => ⟨hM.mono g.R, g.cells (j := 2) rfl rfl rfl, ?_⟩) (.env (by (try simp only [liE, letsOf, letU, snd, List.append_nil]); rfl) (.ite (fun h1 => .ret rfl ?_) (fun h1 => ?_)))
  · simp only [List.mem_cons, List.not_mem_nil, or_false]
    rintro x (rfl | rfl)
    · exact hC.mono g.R
    · exact hD.mono g.R
  · ((try simp only [evE, liE, letsOf, letU, snd] at h1); (try simp only [cmE] at h1))
    replace h1 : chkM ms [C.w, D.w] ≠ 0 := h1
    have : explW ms C.w D.w = (0, false, chkM ms [C.w, D.w]) := by unfold explW; rw [if_pos h1]
    rw [this]; rfl
  ((try simp only [evE, liE, letsOf, letU, snd] at h1); (try simp only [cmE] at h1))
  replace h1 : chkM ms [C.w, D.w] = 0 := h1
  obtain ⟨l0, l1, l2⟩ := chkM_all h1
  simp only [List.mem_cons, List.not_mem_nil, or_false, forall_eq_or_imp, forall_eq] at l2
  have he : explW ms C.w D.w = foundW (ms.findIdx? (supM C.w D.w)) := by unfold explW; rw [if_neg (by simp [h1])]
  refine .callV (c_index p cp ms (.func (.func n_analogy_Explain_1) #[] #[.pointer (some ⟨b0, 0, none⟩), .pointer (some ⟨b1, 0, none⟩)]) rfl (supM C.w D.w) (ExpAt C D ms b0 b1) (fun R S hRS ⟨h0, h1, hC, hD, hm, hV⟩ => ⟨h0.mono hRS, h1.mono hRS, hC.mono hRS, hD.mono hRS, fun x hx => ⟨(hm x hx).1.mono hRS, (hm x hx).2.mono hRS⟩, hV.mono hRS⟩) hl fun x hx => FnV.of rfl (c_exp1 C D ms b0 b1 x hx (hm x hx).2.2.1 (hm x hx).2.2.2 oc (by have := l1 x hx; omega) (by have := l1 x hx; omega) (by omega) (by omega)))
    (fun g => ⟨hM.mono g.R, g.cells (j := 0) rfl rfl rfl, g.cells (j := 1) rfl rfl rfl, hC.mono g.R, hD.mono g.R, fun x hx => ⟨(hM.2 x hx).1.mono g.R, (hM.2 x hx).2.mono g.R⟩, hV.mono g.R⟩) (.env (by (try simp only [liE, letsOf, letU, snd, List.append_nil]); rfl) (.ret rfl ?_))
  rw [he]
  cases hi : ms.findIdx? (supM C.w D.w) with
  | none => rfl
  | some i =>
    simp only [SV.den, SV.dens, BT.eval, IT.eval, Env.int, List.getElem?_cons_zero, List.getElem?_cons_succ]
    have key : ∀ (x y : Int) (b c : Bool), x = y → b = c → Value.tuple #[.int .i64 x, .bool b, .int .i64 0] = Value.tuple #[.int .i64 y, .bool c, .int .i64 0] := by rintro _ _ _ _ rfl rfl; rfl
    exact key _ _ _ _ (if_neg (show ¬ (0 : Int) > (i : Int) by omega)) (by simp [cm, foundW])
theorem c_Count (p : Option Addr) (cp : Nat) (ms : List MD) (C D : WD) (hm : ModelsOk ms) (hc : Wok C.w) (hd : Wok D.w) (oc : C.ok) (hl : ms.length < 2 ^ 62) : RetP Tryd.prog n_analogy_Count [slv p ms.length cp, C.v, D.v] (fun R => ModelsAt R p ms ∧ WordAt R C.p C.w ∧ WordAt R D.p D.w ∧ VarsOk R) (.tuple #[.int .i64 (countW ms C.w D.w).1, .int .i64 (countW ms C.w D.w).2]) := by
  refine Fn.of S_analogy_Count mx [.p p, .i ms.length, .i cp, .p C.p, .i C.w.length, .i C.cap, .p D.p, .i D.w.length, .i D.cap] rfl rfl fun c hp => .alloc fun b0 => ?_
  obtain ⟨hM, hC, hD, hV⟩ := hp
  refine .callV (c_check p cp ms (some ⟨b0, 0, none⟩) 2 [C, D] hm (by simp [hc, hd]) (by simp)) (fun g => ⟨hM.mono g.R, g.cells (j := 0) rfl rfl rfl, ?_⟩) (.env (by (try simp only [liE, letsOf, letU, snd, List.append_nil]); rfl) (.ite (fun h1 => .ret rfl ?_) (fun h1 => .chk (by ((try simp only [evE, liE, letsOf, letU, snd]); (try simp only [cmE])); omega) ?_)))
  · simp only [List.mem_cons, List.not_mem_nil, or_false]
    rintro x (rfl | rfl)
    · exact hC.mono g.R
    · exact hD.mono g.R
  · ((try simp only [evE, liE, letsOf, letU, snd] at h1); (try simp only [cmE] at h1))
    replace h1 : chkM ms [C.w, D.w] ≠ 0 := h1
    have : countW ms C.w D.w = (0, chkM ms [C.w, D.w]) := by unfold countW; rw [if_pos h1]
    rw [this]; rfl
  ((try simp only [evE, liE, letsOf, letU, snd] at h1); (try simp only [cmE] at h1))
  replace h1 : chkM ms [C.w, D.w] = 0 := h1
  obtain ⟨l0, l1, l2⟩ := chkM_all h1
  simp only [List.mem_cons, List.not_mem_nil, or_false, forall_eq_or_imp, forall_eq] at l2
  have he : countW ms C.w D.w = (((ms.countP (supM C.w D.w) : Nat) : Int), 0) := by unfold countW; rw [if_neg (by simp [h1])]
  rw [he]
  refine .loop (fun n us _ => ∃ (j : Nat), us = [.i ((ms.take j).countP (supM C.w D.w) : Nat), .i j] ∧ n + j = ms.length) ms.length ⟨0, rfl, rfl⟩ ?_
  rintro n _ m _ ⟨j, rfl, hn⟩
  refine .env (by (try simp only [liE, letsOf, letU, snd, List.append_nil]); rfl) (.ite (fun h2 => ?_) (fun h2 => .ret rfl ?_)) <;> ((try simp only [evE, liE, letsOf, letU, snd] at h2); (try simp only [cmE] at h2))
  · have hj : j < ms.length := by omega
    have hok := hm _ (List.getElem_mem hj)
    have hat := hM.2 _ (List.getElem_mem hj)
    have hle := l1 _ (List.getElem_mem hj)
    have hcn : (ms.take j).countP (supM C.w D.w) ≤ j := by have := List.countP_le_length (p := supM C.w D.w) (l := ms.take j); simp at this; omega
    refine .loadMD ms j hj (fun g => hM.1.mono g.R) (.env (by (try simp only [liE, letsOf, letU, snd, List.append_nil]); rfl) (.alloc fun b1 => .callV (c_supports ms[j].a ms[j].b C D hok.2.2.1 hok.2.2.2 oc (by omega) (by omega) (by omega) (by omega)) (fun g => ⟨hat.1.mono g.R, hat.2.mono g.R, hC.mono g.R, hD.mono g.R, hV.mono g.R⟩) (.env (by (try simp only [liE, letsOf, letU, snd, List.append_nil]); rfl) ?_)))
    refine .join (fun us _ => us = [.i ((ms.take (j + 1)).countP (supM C.w D.w) : Nat)]) (.ite (fun h3 => .again rfl ?_) (fun h3 => .again rfl ?_)) ?_
    · replace h3 : supM C.w D.w ms[j] = true := h3
      (simp only [evE, liE, letsOf, letU, snd, Sh.uss, Sh.us, atAddr, map_add0, List.append_nil])
      rw [add_i64 _ (by omega), countP_snoc hj, if_pos h3]
    · replace h3 : supM C.w D.w ms[j] = false := h3
      (simp only [evE, liE, letsOf, letU, snd, Sh.uss, Sh.us, atAddr, map_add0, List.append_nil])
      rw [countP_snoc hj, if_neg (by simp [h3]), Nat.add_zero]
    rintro _ _ _ rfl
    refine .env (by (try simp only [liE, letsOf, letU, snd, List.append_nil]); rfl) (.again rfl ⟨n - 1, by omega, j + 1, ?_, by omega⟩)
    (simp only [evE, liE, letsOf, letU, snd, Sh.uss, Sh.us, atAddr, map_add0, List.append_nil]); rw [add_i64 j (by omega)]
  · rw [List.take_of_length_le (by omega)]; rfl
theorem c_refCount0 (p : Option Addr) (cp : Nat) (ms : List MD) (C D : WD) (hm : ModelsOk ms) (oc : C.ok) (hl : ms.length < 2 ^ 62) (l1 : ∀ x ∈ ms, x.a.w.length ≤ 32 ∧ x.b.w.length ≤ 32) (lc : C.w.length < 2 ^ 38) (ld : D.w.length < 2 ^ 38) : RetP Tryd.prog n_ref30_count [slv p ms.length cp, C.v, D.v] (fun R => ModelsAt R p ms ∧ WordAt R C.p C.w ∧ WordAt R D.p D.w) (.int .i64 (ms.countP (supM C.w D.w) : Nat)) := by
  refine Fn.of S_ref30_count mx [.p p, .i ms.length, .i cp, .p C.p, .i C.w.length, .i C.cap, .p D.p, .i D.w.length, .i D.cap] rfl rfl fun c hp => ?_
  obtain ⟨hM, hC, hD⟩ := hp
  refine .loop (fun n us _ => ∃ (j : Nat), us = [.i ((ms.take j).countP (supM C.w D.w) : Nat), .i j] ∧ n + j = ms.length) ms.length ⟨0, rfl, rfl⟩ ?_
  rintro n _ m _ ⟨j, rfl, hn⟩
  refine .env (by (try simp only [liE, letsOf, letU, snd, List.append_nil]); rfl) (.chk (by ((try simp only [evE, liE, letsOf, letU, snd]); (try simp only [cmE])); omega) (.ite (fun h2 => ?_) (fun h2 => .ret rfl ?_))) <;> ((try simp only [evE, liE, letsOf, letU, snd] at h2); (try simp only [cmE] at h2))
  · have hj : j < ms.length := by omega
    have hok := hm _ (List.getElem_mem hj)
    have hat := hM.2 _ (List.getElem_mem hj)
    have hle := l1 _ (List.getElem_mem hj)
    have hcn : (ms.take j).countP (supM C.w D.w) ≤ j := by have := List.countP_le_length (p := supM C.w D.w) (l := ms.take j); simp at this; omega
    refine .loadMD ms j hj (fun g => hM.1.mono g.R) (.env (by (try simp only [liE, letsOf, letU, snd, List.append_nil]); rfl) (.callV (c_refSup ms[j].a ms[j].b C D hok.2.2.1 hok.2.2.2 oc (by omega) (by omega) (by omega) (by omega)) (fun g => ⟨hat.1.mono g.R, hat.2.mono g.R, hC.mono g.R, hD.mono g.R⟩) (.env (by (try simp only [liE, letsOf, letU, snd, List.append_nil]); rfl) ?_)))
    refine .join (fun us _ => us = [.i ((ms.take (j + 1)).countP (supM C.w D.w) : Nat)]) (.ite (fun h3 => .again rfl ?_) (fun h3 => .again rfl ?_)) ?_
    · replace h3 : supM C.w D.w ms[j] = true := h3
      (simp only [evE, liE, letsOf, letU, snd, Sh.uss, Sh.us, atAddr, map_add0, List.append_nil])
      rw [add_i64 _ (by omega), countP_snoc hj, if_pos h3]
    · replace h3 : supM C.w D.w ms[j] = false := h3
      (simp only [evE, liE, letsOf, letU, snd, Sh.uss, Sh.us, atAddr, map_add0, List.append_nil])
      rw [countP_snoc hj, if_neg (by simp [h3]), Nat.add_zero]
    rintro _ _ _ rfl
    refine .env (by (try simp only [liE, letsOf, letU, snd, List.append_nil]); rfl) (.again rfl ⟨n - 1, by omega, j + 1, ?_, by omega⟩)
    (simp only [evE, liE, letsOf, letU, snd, Sh.uss, Sh.us, atAddr, map_add0, List.append_nil]); rw [add_i64 j (by omega)]
  · rw [List.take_of_length_le (by omega)]; rfl
theorem c_refCount (p : Option Addr) (cp : Nat) (ms : List MD) (C D : WD) (hm : ModelsOk ms) (hc : Wok C.w) (hd : Wok D.w) (oc : C.ok) (hl : ms.length < 2 ^ 62) : RetP Tryd.prog n_ref30_Count [slv p ms.length cp, C.v, D.v] (fun R => ModelsAt R p ms ∧ WordAt R C.p C.w ∧ WordAt R D.p D.w) (.tuple #[.int .i64 (countW ms C.w D.w).1, .int .i64 (countW ms C.w D.w).2]) := by
  refine Fn.of S_ref30_Count mx [.p p, .i ms.length, .i cp, .p C.p, .i C.w.length, .i C.cap, .p D.p, .i D.w.length, .i D.cap] rfl rfl fun c hp => .alloc fun b0 => ?_
  obtain ⟨hM, hC, hD⟩ := hp
  refine .callV (c_ref30check p cp ms (some ⟨b0, 0, none⟩) 2 [C, D] hm (by simp [hc, hd]) (by simp)) (fun g => ⟨hM.mono g.R, g.cells (j := 0) rfl rfl rfl, ?_⟩) (.env (by (try simp only [liE, letsOf, letU, snd, List.append_nil]); rfl) (.ite (fun h1 => .ret rfl ?_) (fun h1 => ?_)))
  · simp only [List.mem_cons, List.not_mem_nil, or_false]
    rintro x (rfl | rfl)
    · exact hC.mono g.R
    · exact hD.mono g.R
  · ((try simp only [evE, liE, letsOf, letU, snd] at h1); (try simp only [cmE] at h1))
    replace h1 : chkM ms [C.w, D.w] ≠ 0 := h1
    have : countW ms C.w D.w = (0, chkM ms [C.w, D.w]) := by unfold countW; rw [if_pos h1]
    rw [this]; rfl
  ((try simp only [evE, liE, letsOf, letU, snd] at h1); (try simp only [cmE] at h1))
  replace h1 : chkM ms [C.w, D.w] = 0 := h1
  obtain ⟨l0, l1, l2⟩ := chkM_all h1
  simp only [List.mem_cons, List.not_mem_nil, or_false, forall_eq_or_imp, forall_eq] at l2
  have he : countW ms C.w D.w = (((ms.countP (supM C.w D.w) : Nat) : Int), 0) := by unfold countW; rw [if_neg (by simp [h1])]
  rw [he]
  exact .callV (c_refCount0 p cp ms C D hm oc hl l1 (by omega) (by omega)) (fun g => ⟨hM.mono g.R, hC.mono g.R, hD.mono g.R⟩) (.ret rfl rfl)
theorem c_refExplain (p : Option Addr) (cp : Nat) (ms : List MD) (C D : WD) (hm : ModelsOk ms) (hc : Wok C.w) (hd : Wok D.w) (oc : C.ok) (hl : ms.length < 2 ^ 62) : RetP Tryd.prog n_ref30_Explain [slv p ms.length cp, C.v, D.v] (fun R => ModelsAt R p ms ∧ WordAt R C.p C.w ∧ WordAt R D.p D.w) (.tuple #[.int .i64 (explW ms C.w D.w).1, .bool (explW ms C.w D.w).2.1, .int .i64 (explW ms C.w D.w).2.2]) := by
  refine Fn.of S_ref30_Explain mx [.p p, .i ms.length, .i cp, .p C.p, .i C.w.length, .i C.cap, .p D.p, .i D.w.length, .i D.cap] rfl rfl fun c hp => .alloc fun b0 => ?_
  obtain ⟨hM, hC, hD⟩ := hp
  refine .callV (c_ref30check p cp ms (some ⟨b0, 0, none⟩) 2 [C, D] hm (by simp [hc, hd]) (by simp)) (fun g => ⟨hM.mono g.R, g.cells (j := 0) rfl rfl rfl, ?_⟩) (.env (by (try simp only [liE, letsOf, letU, snd, List.append_nil]); rfl) (.ite (fun h1 => .ret rfl ?_) (fun h1 => ?_)))
  · simp only [List.mem_cons, List.not_mem_nil, or_false]
    rintro x (rfl | rfl)
    · exact hC.mono g.R
    · exact hD.mono g.R
  · ((try simp only [evE, liE, letsOf, letU, snd] at h1); (try simp only [cmE] at h1))
    replace h1 : chkM ms [C.w, D.w] ≠ 0 := h1
    have : explW ms C.w D.w = (0, false, chkM ms [C.w, D.w]) := by unfold explW; rw [if_pos h1]
    rw [this]; rfl
  ((try simp only [evE, liE, letsOf, letU, snd] at h1); (try simp only [cmE] at h1))
  replace h1 : chkM ms [C.w, D.w] = 0 := h1
  obtain ⟨l0, l1, l2⟩ := chkM_all h1
  simp only [List.mem_cons, List.not_mem_nil, or_false, forall_eq_or_imp, forall_eq] at l2
  have he : explW ms C.w D.w = foundW (ms.findIdx? (supM C.w D.w)) := by unfold explW; rw [if_neg (by simp [h1])]
  rw [he]
  refine .loop (fun n us _ => ∃ (j : Nat), us = [.i 0, .b false, .i 0, .i j] ∧ n + j = ms.length ∧ ∀ i (hi : i < ms.length), i < j → supM C.w D.w ms[i] = false) ms.length ⟨0, rfl, rfl, fun i hi h => by omega⟩ ?_
  rintro n _ m _ ⟨j, rfl, hn, hb⟩
  refine .env (by (try simp only [liE, letsOf, letU, snd, List.append_nil]); rfl) (.chk (by ((try simp only [evE, liE, letsOf, letU, snd]); (try simp only [cmE])); omega) (.ite (fun h2 => ?_) (fun h2 => .ret rfl ?_))) <;> ((try simp only [evE, liE, letsOf, letU, snd] at h2); (try simp only [cmE] at h2))
  · have hj : j < ms.length := by omega
    have hok := hm _ (List.getElem_mem hj)
    have hat := hM.2 _ (List.getElem_mem hj)
    have hle := l1 _ (List.getElem_mem hj)
    refine .loadMD ms j hj (fun g => hM.1.mono g.R) (.env (by (try simp only [liE, letsOf, letU, snd, List.append_nil]); rfl) (.callV (c_refSup ms[j].a ms[j].b C D hok.2.2.1 hok.2.2.2 oc (by omega) (by omega) (by omega) (by omega)) (fun g => ⟨hat.1.mono g.R, hat.2.mono g.R, hC.mono g.R, hD.mono g.R⟩) (.env (by (try simp only [liE, letsOf, letU, snd, List.append_nil]); rfl) (.ite (fun h3 => .ret rfl ?_) (fun h3 => .again rfl ⟨n - 1, by omega, j + 1, ?_, by omega, ?_⟩)))))
    · replace h3 : supM C.w D.w ms[j] = true := h3
      rw [findIdx?_at hj h3 hb]; rfl
    · (simp only [evE, liE, letsOf, letU, snd, Sh.uss, Sh.us, atAddr, map_add0, List.append_nil]); rw [add_i64 j (by omega)]
    · replace h3 : supM C.w D.w ms[j] = false := h3
      intro i hi hij
      rcases Nat.lt_or_ge i j with h | h
      · exact hb i hi h
      · have : i = j := by omega
        subst this; exact h3
  · rw [findIdx?_none fun i hi => hb i hi (by omega)]; rfl
end Go.Proofs.YtpbbnmjkbfbelaaDoor
