/- Chapter 30: the law AnalogyMost. -/
import Derived.Test.YtpbbnmjkbfbelaaDoorYc
import Derived.Test.YtpbbnmjkbfbelaaDoorTcMost
set_option linter.unusedSimpArgs false
set_option linter.unusedVariables false
namespace Go.Proofs.YtpbbnmjkbfbelaaDoor
open Go Go.Sy Go.RowKit
theorem mem_res {a b c w : List Snd} : w ∈ resW a b c ↔ solveW a b c = some w ∨ frontW a b c = some w := by
  constructor
  · intro h
    unfold resW at h
    split at h
    · rename_i x y hx hy
      split at h
      · simp at h; exact .inl (by rw [hx, h])
      · simp at h
        rcases h with rfl | rfl
        · exact .inl hx
        · exact .inr hy
    · rename_i x hx hy; simp at h; exact .inl (by rw [hx, h])
    · rename_i y hx hy; simp at h; exact .inr (by rw [hy, h])
    · simp at h
  · rintro (h | h)
    · exact solve_res h
    · exact front_res h
def optK (k : Nat) (m : MD) (c : List Snd) : Option (List Snd) := if k = 1 then frontW m.a.w m.b.w c else solveW m.a.w m.b.w c
def someK (ms : List MD) (c : List Snd) (i k : Nat) : Prop := (∃ w, w ∈ fnd (ms.take i) c) ∨ ∃ (m : MD) (k' : Nat) (w : List Snd), ms[i]? = some m ∧ k' < k ∧ optK k' m c = some w ∧ w.length ≤ 32
theorem someK_two {ms : List MD} {c : List Snd} {i : Nat} (hi : i < ms.length) : someK ms c i 2 ↔ ∃ w, w ∈ fnd (ms.take (i + 1)) c := by
  unfold someK
  rw [fnd_snoc hi]
  constructor
  · rintro (⟨w, h⟩ | ⟨m, k', w, h1, h2, h3, h4⟩)
    · exact ⟨w, List.mem_append_left _ h⟩
    · rw [List.getElem?_eq_getElem hi] at h1; cases h1
      refine ⟨w, List.mem_append_right _ (List.mem_filter.2 ⟨mem_res.2 ?_, by simp [short, h4]⟩)⟩
      unfold optK at h3
      split at h3
      · exact .inr h3
      · exact .inl h3
  · rintro ⟨w, h⟩
    rcases List.mem_append.1 h with h | h
    · exact .inl ⟨w, h⟩
    · obtain ⟨h1, h2⟩ := List.mem_filter.1 h
      simp [short] at h2
      rcases mem_res.1 h1 with h | h
      · exact .inr ⟨ms[i], 0, w, List.getElem?_eq_getElem hi, by omega, by simpa [optK] using h, h2⟩
      · exact .inr ⟨ms[i], 1, w, List.getElem?_eq_getElem hi, by omega, by simpa [optK] using h, h2⟩
theorem someK_zero {ms : List MD} {c : List Snd} {i : Nat} : someK ms c i 0 ↔ ∃ w, w ∈ fnd (ms.take i) c := ⟨fun h => h.elim id fun ⟨_, _, _, _, h, _⟩ => by omega, .inl⟩
theorem someK_succ {ms : List MD} {c : List Snd} {i k : Nat} (hi : i < ms.length) : someK ms c i (k + 1) ↔ someK ms c i k ∨ ∃ w, optK k ms[i] c = some w ∧ w.length ≤ 32 := by
  unfold someK
  constructor
  · rintro (h | ⟨m, k', w, h1, h2, h3, h4⟩)
    · exact .inl (.inl h)
    · rcases Nat.lt_or_ge k' k with h | h
      · exact .inl (.inr ⟨m, k', w, h1, h, h3, h4⟩)
      · obtain rfl : k' = k := by omega
        rw [List.getElem?_eq_getElem hi] at h1; cases h1
        exact .inr ⟨w, h3, h4⟩
  · rintro ((h | ⟨m, k', w, h1, h2, h3, h4⟩) | ⟨w, h3, h4⟩)
    · exact .inl h
    · exact .inr ⟨m, k', w, h1, by omega, h3, h4⟩
    · exact .inr ⟨ms[i], k, w, List.getElem?_eq_getElem hi, by omega, h3, h4⟩
theorem optK_len {k : Nat} {m : MD} {c w : List Snd} (h : optK k m c = some w) : w ∈ resW m.a.w m.b.w c := by
  unfold optK at h
  split at h
  · exact front_res h
  · exact solve_res h
set_option maxHeartbeats 2000000 in
theorem l_AnalogyMost (p : Option Addr) (cp : Nat) (ms : List MD) (C : WD) (hm : ModelsOk ms) (hc : Wok C.w) (oc : C.ok) (hl' : ms.length ≤ maxLen) : RetP Tryd.prog n_law30_AnalogyMost [slv p ms.length cp, C.v] (fun R => ModelsAt R p ms ∧ WordAt R C.p C.w ∧ VarsOk R) (.bool true) := by
  refine Fn.of S_law30_AnalogyMost mx [.p p, .i ms.length, .i cp, .p C.p, .i C.w.length, .i C.cap] rfl rfl fun c hp => ?_
  obtain ⟨hM, hC, hV⟩ := hp
  refine .join (fun us _ => ∃ x : Bool, us = [.b x] ∧ (x = false → ms.length ≤ 12 ∧ checkL [C.w] = 0)) (.chk (by ((try simp only [evE, liE, letsOf, letU, snd]); (try simp only [cmE])); omega) (.ite (fun h1 => .again rfl ⟨true, rfl, fun h => by cases h⟩) (fun h1 => .alloc fun b0 => ?_))) ?_
  · ((try simp only [evE, liE, letsOf, letU, snd] at h1); (try simp only [cmE] at h1))
    refine .callV (c_good (some ⟨b0, 0, none⟩) 1 [C] (by simp [hc]) (by simp)) (fun g => ⟨g.cells (j := 0) rfl rfl rfl, ?_⟩) (.env (by (try simp only [liE, letsOf, letU, snd, List.append_nil]); rfl) (.again rfl ⟨_, rfl, fun h => ⟨by omega, ?_⟩⟩))
    · simp only [List.mem_cons, List.not_mem_nil, or_false]
      rintro x rfl
      exact hC.mono g.R
    · replace h : (!decide (checkL [C.w] = 0)) = false := h
      simpa using h
  rintro _ m0 _ ⟨x, rfl, hx⟩
  refine .env (by (try simp only [liE, letsOf, letU, snd, List.append_nil]); rfl) (.ite (fun h1 => .callV c_works (fun g => hV.mono g.R) (.ret rfl rfl)) (fun h1 => ?_))
  obtain ⟨hl, hcd⟩ := hx (by simpa [BT.eval, Env.bool] using h1)
  refine .loop (fun n us mm => ∃ (e : Bool) (j : Nat), us = [.b e, .i j] ∧ n + j = ms.length ∧ ∀ i (hi : i < ms.length), i < j → checkL [ms[i].a.w, ms[i].b.w] = 0) ms.length ⟨false, 0, rfl, rfl, fun i hi h => by omega⟩ ?_
  rintro n _ m _ ⟨e, j, rfl, hn, hj0⟩
  refine .env (by (try simp only [liE, letsOf, letU, snd, List.append_nil]); rfl) (.chk (by ((try simp only [evE, liE, letsOf, letU, snd]); (try simp only [cmE])); omega) (.ite (fun h2 => ?_) (fun h2 => ?_))) <;> ((try simp only [evE, liE, letsOf, letU, snd] at h2); (try simp only [cmE] at h2))
  · have hj : j < ms.length := by omega
    have hcs := mcells_at ms j hj
    have hok := hm _ (List.getElem_mem hj)
    have hat := hM.2 _ (List.getElem_mem hj)
    obtain ⟨b, o, hpe⟩ := (hM.1.some (i := j * 2) (by rw [mcells_len]; omega) : ∃ b o, p = some ⟨b, o, none⟩)
    have k1 : ∀ ρ : Env, ρ.ptr 0 = p → ρ.int 1 = (ms.length : Int) → ρ.int 8 = (j : Int) → (BT.pick (.cmp .geq (.var 8) (.lit 0)) (.pick (.cmp .lss (.var 8) (.var 1)) (.some 0) (.lit false)) (.lit false)).eval ρ = true := fun ρ e1 e2 e3 => by
      simp only [BT.eval, IT.eval, e1, e2, e3, hpe, cm, pick_and]; simp; omega
    have k2 : ∀ ρ : Env, ρ.ptr 0 = p → ρ.int 8 = (j : Int) → (BT.pick (.cmp .geq (.off (.var 8) 2 (.lit 0)) (.lit 0)) (.some 0) (.lit false)).eval ρ = true := fun ρ e1 e3 => by
      simp only [BT.eval, IT.eval, e1, e3, hpe, cm, pick_and]; simp; omega
    refine .chk (k1 _ rfl rfl rfl) (.chk (k2 _ rfl rfl) (.loadS (mcells ms) (j * 2) ms[j].a.p ms[j].a.w.length ms[j].a.cap ?_ hcs.1 (fun g => hM.1.mono g.R) (.env (by (try simp only [liE, letsOf, letU, snd, List.append_nil]); rfl) (.chk (k1 _ rfl rfl rfl) (.chk (k2 _ rfl rfl) (.loadS (mcells ms) (j * 2 + 1) ms[j].b.p ms[j].b.w.length ms[j].b.cap ?_ hcs.2 (fun g => hM.1.mono g.R) (.env (by (try simp only [liE, letsOf, letU, snd, List.append_nil]); rfl) (.alloc fun b0 => ?_))))))))
    · simp only [IT.eval, Env.int]; simp
    · simp only [IT.eval, Env.int]; simp <;> omega
    refine .callV (c_good (some ⟨b0, 0, none⟩) 2 [ms[j].a, ms[j].b] (by simp [hok.1, hok.2.1]) (by simp)) (fun g => ⟨g.cells (j := 0) rfl rfl rfl, ?_⟩) (.env (by (try simp only [liE, letsOf, letU, snd, List.append_nil]); rfl) (.ite (fun h3 => .callV c_works (fun g => hV.mono g.R) (.ret rfl rfl)) (fun h3 => .again rfl ⟨n - 1, by omega, e, j + 1, ?_, by omega, few_models hj hj0 ?_⟩)))
    · simp only [List.mem_cons, List.not_mem_nil, or_false]
      rintro x (rfl | rfl)
      · exact hat.1.mono g.R
      · exact hat.2.mono g.R
    · (simp only [evE, liE, letsOf, letU, snd, Sh.uss, Sh.us, atAddr, map_add0, List.append_nil]); rw [add_i64 j (by omega)]
    · replace h3 : (!decide (checkL [ms[j].a.w, ms[j].b.w] = 0)) = false := h3
      simpa using h3
  have hall : ∀ i (hi : i < ms.length), checkL [ms[i].a.w, ms[i].b.w] = 0 := fun i hi => hj0 i hi (by omega)
  clear hj0 h2 hx h1
  have h0 : chkM ms [C.w] = 0 := chkM_ok (by omega) hall hcd
  have hcC : checkW C.w = 0 := checkL_zero.1 hcd _ (by simp)
  have hdv : ∀ {d : List Snd}, d ∈ fnd ms C.w → Wok d ∧ checkW d = 0 ∧ d.length ≤ 32 := fun {d} hd => by
    obtain ⟨x, hx, hr, hl⟩ := mem_fnd.1 hd
    obtain ⟨i, hi, rfl⟩ := List.getElem_of_mem hx
    have hv := (checkW_iff.1 (checkL_zero.1 (hall i hi) ms[i].b.w (by simp))).2
    exact ⟨fun s hs => (resW_sub hr s hs).elim ((hm _ hx).2.1 s) (hc s), checkW_iff.2 ⟨hl, resW_valid hv (checkW_iff.1 hcC).2 hr⟩, hl⟩
  have hcount : ∀ {d : List Snd}, d ∈ fnd ms C.w → countW ms C.w d = (((votes ms C.w d : Nat) : Int), 0) := fun {d} hd => by
    unfold countW
    rw [if_neg (by simp [chkM_ok (l := [C.w, d]) (by omega : ms.length ≤ 256) hall (checkL_zero.2 (by simp [hcC, (hdv hd).2.1]))])]
    rfl
  have hE := ext_most h0
  refine .callM (c_Extend p cp ms C hm hc oc (by omega)) rfl rfl (fun g => ⟨hM.mono g.R, hC.mono g.R, hV.mono g.R⟩) ?_
  rintro v mq hf ⟨q, k, rfl, hr⟩
  have hr := hr.joinR (m := m) fun b hb => (hf b hb).1
  generalize extW ms C.w = r at *
  refine ⟨[.p q, .i r.1.length, .i k, .i r.2.1, .i r.2.2], uOk_of rfl, (ext_fresh _ _ _ _ _ _ _).symm, .env (by (try simp only [liE, letsOf, letU, snd, List.append_nil]); rfl) ?_⟩
  generalize m.join mq = m1 at *
  clear hf
  refine .loop (fun n us mm => ∃ (e s : Bool) (i : Nat), us = [.b e, .b s, .i i] ∧ n + i = ms.length ∧ RowW mm 31 q k r.1 ∧ (s = true ↔ ∃ w, w ∈ fnd (ms.take i) C.w)) ms.length ⟨_, false, 0, rfl, rfl, hr, by simp [fnd]⟩ ?_
  clear hr
  rintro n _ m2 _ ⟨e, s, i, rfl, hn, hr, hs⟩
  refine .env (by (try simp only [liE, letsOf, letU, snd, List.append_nil]); rfl) (.chk (by ((try simp only [evE, liE, letsOf, letU, snd]); (try simp only [cmE])); omega) (.ite (fun h2 => ?_) (fun h2 => ?_))) <;> ((try simp only [evE, liE, letsOf, letU, snd] at h2); (try simp only [cmE] at h2))
  · have hi : i < ms.length := by omega
    have hcs := mcells_at ms i hi
    have hok := hm _ (List.getElem_mem hi)
    have hat := hM.2 _ (List.getElem_mem hi)
    have hca := checkL_zero.1 (hall i hi) ms[i].a.w (by simp)
    have hcb := checkL_zero.1 (hall i hi) ms[i].b.w (by simp)
    obtain ⟨b, o, hpe⟩ := (hM.1.some (i := i * 2) (by rw [mcells_len]; omega) : ∃ b o, p = some ⟨b, o, none⟩)
    have k1 : ∀ ρ : Env, ρ.ptr 0 = p → ρ.int 1 = (ms.length : Int) → ρ.int 16 = (i : Int) → (BT.pick (.cmp .geq (.var 16) (.lit 0)) (.pick (.cmp .lss (.var 16) (.var 1)) (.some 0) (.lit false)) (.lit false)).eval ρ = true := fun ρ e1 e2 e3 => by
      simp only [BT.eval, IT.eval, e1, e2, e3, hpe, cm, pick_and]; simp; omega
    have k2 : ∀ ρ : Env, ρ.ptr 0 = p → ρ.int 16 = (i : Int) → (BT.pick (.cmp .geq (.off (.var 16) 2 (.lit 0)) (.lit 0)) (.some 0) (.lit false)).eval ρ = true := fun ρ e1 e3 => by
      simp only [BT.eval, IT.eval, e1, e3, hpe, cm, pick_and]; simp; omega
    refine .loop (fun n us mm => ∃ (e s : Bool) (kk : Nat), us = [.b e, .b s, .i kk] ∧ n + kk = 2 ∧ RowW mm 31 q k r.1 ∧ (s = true ↔ someK ms C.w i kk)) 2 ⟨_, s, 0, rfl, rfl, hr, hs.trans someK_zero.symm⟩ ?_
    clear hr hs
    rintro n2 _ m3 _ ⟨e3, s3, kk, rfl, hn2, hr, hs⟩
    refine .env (by (try simp only [liE, letsOf, letU, snd, List.append_nil]); rfl) (.ite (fun h3 => ?_) (fun h3 => ?_)) <;> ((try simp only [evE, liE, letsOf, letU, snd] at h3); (try simp only [cmE] at h3))
    · have hk2 : kk < 2 := by omega
      refine .join (fun us mm => ∃ (e s : Bool), us = [.b e, .b s] ∧ RowW mm 31 q k r.1 ∧ (s = true ↔ someK ms C.w i (kk + 1))) ?_ ?_
      · refine .chk (k1 _ rfl rfl rfl) (.chk (k2 _ rfl rfl) (.loadS (mcells ms) (i * 2) ms[i].a.p ms[i].a.w.length ms[i].a.cap ?_ hcs.1 (fun g => hM.1.mono g.R) (.env (by (try simp only [liE, letsOf, letU, snd, List.append_nil]); rfl) (.chk (k1 _ rfl rfl rfl) (.chk (k2 _ rfl rfl) (.loadS (mcells ms) (i * 2 + 1) ms[i].b.p ms[i].b.w.length ms[i].b.cap ?_ hcs.2 (fun g => hM.1.mono g.R) (.env (by (try simp only [liE, letsOf, letU, snd, List.append_nil]); rfl) ?_)))))))
        · simp only [IT.eval, Env.int]; simp
        · simp only [IT.eval, Env.int]; simp <;> omega
        refine .callM (c_Solve ms[i].a ms[i].b C hok.1 hok.2.1 hc hok.2.2.1 hok.2.2.2 oc) rfl rfl (fun g => ⟨hat.1.mono g.R, hat.2.mono g.R, hC.mono g.R, hV.mono g.R⟩) ?_
        rintro v mq hf ⟨q1, c1, rfl, hr1⟩
        have hr1 := hr1.joinR (m := m3) fun b hb => (hf b hb).1
        replace hr := hr.joinL (mq := mq)
        generalize hz : oneW ms[i].a.w ms[i].b.w C.w (solveW ms[i].a.w ms[i].b.w C.w) = z at *
        refine ⟨[.p q1, .i (z.1.length : Nat), .i c1, .b z.2.1, .i z.2.2], uOk_of rfl, (res3_fresh _ _ _ _ _ _ _).symm, .env (by (try simp only [liE, letsOf, letU, snd, List.append_nil]); rfl) ?_⟩
        generalize m3.join mq = m4 at *
        clear hf
        refine .join (fun us mm => ∃ (q1 : Option Addr) (c1 : Nat) (z : List Snd × Bool × Int), us = [.p q1, .i (z.1.length : Nat), .i c1, .b z.2.1, .i z.2.2] ∧ z = oneW ms[i].a.w ms[i].b.w C.w (optK kk ms[i] C.w) ∧ RowW mm 31 q k r.1 ∧ RowW mm 31 q1 c1 z.1) (.ite (fun h4 => ?_) (fun h4 => .again rfl ⟨q1, c1, z, (by (simp only [evE, liE, letsOf, letU, snd, Sh.uss, Sh.us, atAddr, map_add0, List.append_nil]) <;> rfl), ?_, hr, hr1⟩)) ?_
        · ((try simp only [evE, liE, letsOf, letU, snd] at h4); (try simp only [cmE] at h4))
          refine .chk (k1 _ rfl rfl rfl) (.chk (k2 _ rfl rfl) (.loadS (mcells ms) (i * 2) ms[i].a.p ms[i].a.w.length ms[i].a.cap ?_ hcs.1 (fun g => hM.1.mono g.R) (.env (by (try simp only [liE, letsOf, letU, snd, List.append_nil]); rfl) (.chk (k1 _ rfl rfl rfl) (.chk (k2 _ rfl rfl) (.loadS (mcells ms) (i * 2 + 1) ms[i].b.p ms[i].b.w.length ms[i].b.cap ?_ hcs.2 (fun g => hM.1.mono g.R) (.env (by (try simp only [liE, letsOf, letU, snd, List.append_nil]); rfl) ?_)))))))
          · simp only [IT.eval, Env.int]; simp
          · simp only [IT.eval, Env.int]; simp <;> omega
          refine .callM (c_Front ms[i].a ms[i].b C hok.1 hok.2.1 hc hok.2.2.1 hok.2.2.2 oc) rfl rfl (fun g => ⟨hat.1.mono g.R, hat.2.mono g.R, hC.mono g.R, hV.mono g.R⟩) ?_
          rintro v mq hf ⟨q2, c2, rfl, hr2⟩
          have hr2 := hr2.joinR (m := m4) fun b hb => (hf b hb).1
          replace hr := hr.joinL (mq := mq)
          generalize hz2 : oneW ms[i].a.w ms[i].b.w C.w (frontW ms[i].a.w ms[i].b.w C.w) = z2 at *
          refine ⟨[.p q2, .i (z2.1.length : Nat), .i c2, .b z2.2.1, .i z2.2.2], uOk_of rfl, (res3_fresh _ _ _ _ _ _ _).symm, .env (by (try simp only [liE, letsOf, letU, snd, List.append_nil]); rfl) (.again rfl ⟨q2, c2, z2, (by (simp only [evE, liE, letsOf, letU, snd, Sh.uss, Sh.us, atAddr, map_add0, List.append_nil]) <;> rfl), ?_, hr, hr2⟩)⟩
          rw [← hz2]; unfold optK; rw [if_pos (by omega)]
        · ((try simp only [evE, liE, letsOf, letU, snd] at h4); (try simp only [cmE] at h4))
          rw [← hz]; unfold optK; rw [if_neg (by omega)]
        clear hr hr1 hz
        rintro _ m5 _ ⟨q1, c1, z, rfl, hz, hr, hr1⟩
        rw [oneW_ok hca hcb hcC] at hz
        have hres : ∀ w, optK kk ms[i] C.w = some w → w.length ≤ 32 → w ∈ fnd ms C.w := fun w hw hl => mem_fnd.2 ⟨ms[i], List.getElem_mem hi, optK_len hw, hl⟩
        refine .env (by (try simp only [liE, letsOf, letU, snd, List.append_nil]); rfl) ?_
        cases ho : optK kk ms[i] C.w with
        | none =>
          rw [ho] at hz
          subst hz
          refine .yes rfl (.again rfl ⟨e3, s3, rfl, hr, ?_⟩)
          rw [hs, someK_succ hi, ho]; simp
        | some d =>
          rw [ho] at hz
          rw [Option.getD_some] at hz
          by_cases h32 : d.length > 32
          · rw [if_pos h32] at hz
            subst hz
            refine .yes rfl (.again rfl ⟨e3, s3, rfl, hr, ?_⟩)
            rw [hs, someK_succ hi, ho]
            exact ⟨.inl, fun h => h.elim id fun ⟨w, h1, h2⟩ => by cases h1; omega⟩
          · rw [if_neg h32] at hz
            subst hz
            have hd := hres d ho (by omega)
            obtain ⟨hdo, hdc, hdl⟩ := hdv hd
            obtain ⟨b, hb, hbv, hrb, hbest⟩ := hE.1 ⟨d, hd⟩
            obtain ⟨hbo, hbc, hbl⟩ := hdv hb
            have hcn := c_Count p cp ms C ⟨q1, c1, d⟩ hm hc hdo oc (by omega)
            simp only [hcount hd] at hcn
            have hvd := fnd_votes hd
            have hnb := hbest d hd
            refine .no rfl (.callV hcn (fun g => ⟨hM.mono g.R, hC.mono g.R, hr1.reads g, hV.mono g.R⟩) (.env (by (try simp only [liE, letsOf, letU, snd, List.append_nil]); rfl) ?_))
            refine .join (fun us mm => us = [.b false] ∧ RowW mm 31 q k r.1) ?_ ?_
            · rw [hrb] at hr ⊢
              have hle : votes ms C.w d ≤ votes ms C.w b := by unfold better at hnb; omega
              refine .yes ?_ (.ite (fun h5 => ?_) (fun h5 => .again rfl ⟨rfl, hr⟩))
              · show (!(bif (bif (bif cm .neq 0 0 then true else cm .lss ((votes ms C.w d : Nat) : Int) 1) then true else cm .neq 0 0) then true else cm .gtr ((votes ms C.w d : Nat) : Int) ((votes ms C.w b : Nat) : Int))) = true
                rw [show cm .lss ((votes ms C.w d : Nat) : Int) 1 = false from decide_eq_false (by omega), show cm .gtr ((votes ms C.w d : Nat) : Int) ((votes ms C.w b : Nat) : Int) = false from decide_eq_false (by omega)]
                rfl
              · ((try simp only [evE, liE, letsOf, letU, snd] at h5); (try simp only [cmE] at h5))
                refine .callV (c_wordOrder q1 q c1 k d b (by omega) (by omega)) (fun g => ⟨hr1.reads g, hr.reads g⟩) (.env (by (try simp only [liE, letsOf, letU, snd, List.append_nil]); rfl) (.again rfl ⟨?_, hr⟩))
                have : ¬ ordW d b < 0 := fun h => hnb (.inr ⟨by omega, h⟩)
                show [U.b (cm .lss (ordW d b) 0)] = _
                simp only [cm]
                rw [decide_eq_false this]
            rintro _ m6 _ ⟨rfl, hr⟩
            refine .env (by (try simp only [liE, letsOf, letU, snd, List.append_nil]); rfl) (.no rfl (.again rfl ⟨e3, true, rfl, hr, ?_⟩))
            rw [someK_succ hi, ho]
            exact ⟨fun _ => .inr ⟨d, rfl, hdl⟩, fun _ => rfl⟩
      rintro _ m7 _ ⟨e7, s7, rfl, hr, hs⟩
      refine .env (by (try simp only [liE, letsOf, letU, snd, List.append_nil]); rfl) (.again rfl ⟨n2 - 1, by omega, e7, s7, kk + 1, ?_, by omega, hr, hs⟩)
      (simp only [evE, liE, letsOf, letU, snd, Sh.uss, Sh.us, atAddr, map_add0, List.append_nil]); rw [add_i64 kk (by omega)]
    · obtain rfl : kk = 2 := by omega
      refine .again rfl ⟨n - 1, by omega, e3, s3, i + 1, ?_, by omega, hr, hs.trans (someK_two hi)⟩
      (simp only [evE, liE, letsOf, letU, snd, Sh.uss, Sh.us, atAddr, map_add0, List.append_nil]); rw [add_i64 i (by omega)]
  · rw [List.take_of_length_le (by omega)] at hs
    by_cases hne : ∃ w, w ∈ fnd ms C.w
    · obtain ⟨b, hb, hbv, hrb, hbest⟩ := hE.1 hne
      obtain ⟨hbo, hbc, hbl⟩ := hdv hb
      obtain rfl := hs.2 hne
      rw [hrb] at hr ⊢
      have hcn := c_Count p cp ms C ⟨q, k, b⟩ hm hc hbo oc (by omega)
      simp only [hcount hb] at hcn
      refine .no rfl (.callV hcn (fun g => ⟨hM.mono g.R, hC.mono g.R, hr.reads g, hV.mono g.R⟩) (.env (by (try simp only [liE, letsOf, letU, snd, List.append_nil]); rfl) ?_))
      refine .join (fun us mm => us = [.b true]) (.yes ?_ (.callV c_works (fun g => hV.mono g.R) (.again rfl rfl))) ?_
      · show (bif (bif (bif true then cm .eql 0 0 else false) then cm .eql ((votes ms C.w b : Nat) : Int) ((votes ms C.w b : Nat) : Int) else false) then cm .geq ((votes ms C.w b : Nat) : Int) 1 else false) = true
        rw [show cm .geq ((votes ms C.w b : Nat) : Int) 1 = true from decide_eq_true (by omega)]
        simp [cm]
      rintro _ _ _ rfl
      exact .ret rfl rfl
    · have hs' : s = false := by
        cases s with
        | false => rfl
        | true => exact absurd (hs.1 rfl) hne
      subst hs'
      have hrb := hE.2 hne
      rw [hrb]
      refine .yes rfl (.join (fun us mm => us = [.b true]) (.yes rfl (.chk rfl (.yes rfl (.callV c_works (fun g => hV.mono g.R) (.again rfl rfl))))) ?_)
      rintro _ _ _ rfl
      exact .ret rfl rfl
end Go.Proofs.YtpbbnmjkbfbelaaDoor
