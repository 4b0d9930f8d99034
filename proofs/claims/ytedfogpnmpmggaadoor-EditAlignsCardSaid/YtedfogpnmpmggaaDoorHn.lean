/- The reference's Align. -/
import Derived.Test.YtedfogpnmpmggaaDoorHj
set_option linter.unusedSimpArgs false
set_option linter.unusedVariables false
namespace Go.Sy
open Go Go.RowKit
section
variable {d : Snd → Snd → Int} {g : Int} {a b : List Snd} {i j : Nat}
theorem algA_both (n : Nat) (hi : i < a.length) (hj : j < b.length) (e : d a[i] b[j] + RA d g a b (i + 1) (j + 1) = RA d g a b i j) : algA d g a b (n + 1) i j = ((i : Int), (j : Int)) :: algA d g a b n (i + 1) (j + 1) := by
  have h : ∃ l, cheapA d g a b i j = (i + 1, j + 1, d a[i] b[j]) :: l := by
    unfold cheapA stepsA
    rw [List.getElem?_eq_getElem hi, List.getElem?_eq_getElem hj]
    simp only [List.filter_cons, e, beq_self_eq_true, if_true]
    exact ⟨_, rfl⟩
  obtain ⟨l, h⟩ := h
  simp only [algA, h]
  rw [if_neg (by omega), if_neg (by omega)]
theorem algA_one (n : Nat) (hi : i < a.length) (h1 : ∀ hj : j < b.length, d a[i] b[j] + RA d g a b (i + 1) (j + 1) ≠ RA d g a b i j) (e : g + RA d g a b (i + 1) j = RA d g a b i j) : algA d g a b (n + 1) i j = ((i : Int), -1) :: algA d g a b n (i + 1) j := by
  have h : ∃ l, cheapA d g a b i j = (i + 1, j, g) :: l := by
    unfold cheapA stepsA
    rcases Nat.lt_or_ge j b.length with hj | hj
    · rw [List.getElem?_eq_getElem hi, List.getElem?_eq_getElem hj]
      simp only [List.filter_cons, e, beq_self_eq_true, if_true]
      rw [if_neg (by simpa using h1 hj)]
      exact ⟨_, rfl⟩
    · rw [List.getElem?_eq_getElem hi, List.getElem?_eq_none hj]
      simp only [List.filter_cons, e, beq_self_eq_true, if_true]
      exact ⟨_, rfl⟩
  obtain ⟨l, h⟩ := h
  simp only [algA, h]
  rw [if_neg (by omega), if_pos trivial]
theorem algA_two (n : Nat) (hj : j < b.length) (h1 : ∀ hi : i < a.length, d a[i] b[j] + RA d g a b (i + 1) (j + 1) ≠ RA d g a b i j) (h2 : i < a.length → g + RA d g a b (i + 1) j ≠ RA d g a b i j) : algA d g a b (n + 1) i j = (-1, (j : Int)) :: algA d g a b n i (j + 1) := by
  have h : ∃ l, cheapA d g a b i j = (i, j + 1, g) :: l := by
    unfold cheapA stepsA
    rcases Nat.lt_or_ge i a.length with hi | hi
    · have r := RA_cc (d := d) (g := g) hi hj
      have e : g + RA d g a b i (j + 1) = RA d g a b i j := by have := h1 hi; have := h2 hi; omega
      rw [List.getElem?_eq_getElem hi, List.getElem?_eq_getElem hj]
      simp only [List.filter_cons, e, beq_self_eq_true, if_true]
      rw [if_neg (by simpa using h1 hi), if_neg (by simpa using h2 hi)]
      exact ⟨_, rfl⟩
    · have e : g + RA d g a b i (j + 1) = RA d g a b i j := (RA_nc hi hj).symm
      rw [List.getElem?_eq_none hi, List.getElem?_eq_getElem hj]
      simp only [List.filter_cons, e, beq_self_eq_true, if_true]
      exact ⟨_, rfl⟩
  obtain ⟨l, h⟩ := h
  simp only [algA, h]
  rw [if_pos trivial, if_neg (by omega)]
end
theorem Tab.keepA {m m' : Mem} {eo ei e' : TypeId} {kd : IntKind} {q q' : Option Addr} {cap cap' n' kx s' : Nat} {rs : List RD} {xs' : List Value} (h : Tab m eo ei kd q cap rs) (h' : Row m e' s' q' cap' n' xs') (ho : eo ≠ e') (hi : ei ≠ e') (hk : ∀ b, ((∃ o, q' = some ⟨b, o, none⟩) → cap' < n' + kx) → m b ≠ none → m' b = m b) : Tab m' eo ei kd q cap rs :=
  ⟨h.out.keepA h' ho hk, fun r hr => (h.inn r hr).keepA h' hi hk, h.apart, h.ne⟩
end Go.Sy
namespace Go.Proofs.YtedfogpnmpmggaaDoor
open Go Go.Sy Go.RowKit
set_option maxHeartbeats 1000000 in
theorem c_refAlign (A B : WD) (pc : Option Addr) (cc : Nat) (ws : List Int) (gap : Int) (ha : Wok A.w) (hb : Wok B.w) :
    FnM Tryd.prog n_ref17_Align [A.v, B.v, costs pc ws.length cc gap] (fun R => WordAt R A.p A.w ∧ WordAt R B.p B.w ∧ CostsAt R pc ws) fun v mq _ =>
      ∃ q cq, v = .tuple #[slv q (alignE ws gap A.w B.w).length cq, .int .i64 (checkE ws gap [A.w, B.w])] ∧ Row mq 57 2 q cq (alignE ws gap A.w B.w).length (pcells (alignE ws gap A.w B.w)) := by
  obtain ⟨pa, ca, a⟩ := A
  obtain ⟨pb, cb, b⟩ := B
  simp only [] at ha hb
  refine FnM.of S_ref17_Align mx [.p pa, .i a.length, .i ca, .p pb, .i b.length, .i cb, .p pc, .i ws.length, .i cc, .i gap] rfl rfl fun c hp => .alloc fun b0 => .alloc fun b1 => ?_
  refine .callV (c_ref17Check pc cc ws gap (some ⟨b1, 0, none⟩) 2 [⟨pa, ca, a⟩, ⟨pb, cb, b⟩] (by simp [ha, hb]) (by simp)) (fun g => ⟨hp.2.2.mono g.R, g.cells (j := 1) rfl rfl rfl, ?_⟩) (.ite (fun h1 => .ret rfl ⟨none, 0, ?_⟩) (fun h1 => ?_))
  · simp only [List.mem_cons, List.not_mem_nil, or_false]
    rintro x (rfl | rfl)
    · exact hp.1.mono g.R
    · exact hp.2.1.mono g.R
  · ((try simp only [evE, liE, letsOf, letU, snd] at h1); (try simp only [cmE] at h1))
    replace h1 : checkE ws gap [a, b] ≠ 0 := h1
    have : alignE ws gap a b = [] := by unfold alignE; rw [if_pos h1]
    rw [this]; exact ⟨rfl, Row.nil _ _ _⟩
  ((try simp only [evE, liE, letsOf, letU, snd] at h1); (try simp only [cmE] at h1))
  replace h1 : checkE ws gap [a, b] = 0 := h1
  rw [show checkE ws gap (List.map (fun x : WD => x.w) [⟨pa, ca, a⟩, ⟨pb, cb, b⟩]) = 0 from h1, h1]
  have hspec : alignE ws gap a b = algA (dC ws gap) gap a b (a.length + b.length) 0 0 := by unfold alignE; rw [if_neg (by simp [h1])]; rfl
  obtain ⟨hc, ⟨la, va⟩, lb, vb⟩ := checkE_two h1
  have hg := (checkC_zero hc).2
  have B := RA_bound hc la lb
  refine .env (by (try simp only [liE, letsOf, letU, snd, List.append_nil]); rfl) (.callM (c_ref17rest ⟨pa, ca, a⟩ ⟨pb, cb, b⟩ pc cc ws gap ha hb h1) rfl rfl (fun g => ⟨hp.1.mono g.R, hp.2.1.mono g.R, hp.2.2.mono g.R⟩) ?_)
  rintro v mq hf ⟨qt, ct, rs, rfl, hT, hrs⟩
  refine ⟨[.p qt, .i (a.length + 1 : Nat), .i ct], ⟨_, _, _, rfl⟩, (slv_fresh _ _ _ _ _).symm, ?_⟩
  replace hT := hT.joinR (m := Mem.emp) fun b hb => (hf b hb).1
  generalize Mem.join _ mq = m at hT ⊢
  obtain ⟨hrl, hat⟩ := rows_of hrs
  have hat : ∀ x y, x ≤ a.length → y ≤ b.length → ∃ r, rs[x]? = some r ∧ r.v[y]? = some (RA (dC ws gap) gap a b x y) := fun x y hx hy => by
    obtain ⟨r, hr, hrv⟩ := hat x (by show x < a.length + 1; omega)
    exact ⟨r, hr, by rw [hrv]; exact restRow_at hy⟩
  clear hf hrs
  replace hrl : rs.length = a.length + 1 := hrl
  refine .env (by (try simp only [liE, letsOf, letU, snd, List.append_nil]); rfl) (.loop (fun n us m => ∃ (out : List (Int × Int)) (q : Option Addr) (cq i j : Nat), us = [.p q, .i (out.length : Nat), .i (cq : Nat), .i i, .i j] ∧ i ≤ a.length ∧ j ≤ b.length ∧ (a.length - i) + (b.length - j) ≤ n ∧ out.length + n = a.length + b.length ∧ alignE ws gap a b = out ++ algA (dC ws gap) gap a b n i j ∧ Tab m 23 2 .i64 qt ct rs ∧ Row m 57 2 q cq out.length (pcells out)) (a.length + b.length)
    ⟨[], none, 0, 0, 0, rfl, Nat.zero_le _, Nat.zero_le _, by omega, by simp, hspec, hT, Row.nil _ _ _⟩ ?_)
  clear hT m
  rintro n _ m _ ⟨out, q, cq, i, j, rfl, hia, hjb, hm, hlen, hal, hT, hrow⟩
  refine .env (by (try simp only [liE, letsOf, letU, snd, List.append_nil]); rfl) (.join (fun us mm => m = mm ∧ ∃ x : Bool, us = [.b x] ∧ (x = true ↔ i < a.length ∨ j < b.length)) (.chk (by ((try simp only [evE, liE, letsOf, letU, snd]); (try simp only [cmE])); omega) (.ite (fun h3 => .again rfl ⟨rfl, true, rfl, ?_⟩) (fun h3 => .chk (by ((try simp only [evE, liE, letsOf, letU, snd]); (try simp only [cmE])); omega) (.again rfl ⟨rfl, cm .lss (j : Int) (b.length : Int), rfl, ?_⟩)))) ?_)
  · ((try simp only [evE, liE, letsOf, letU, snd] at h3); (try simp only [cmE] at h3)); simp; omega
  · ((try simp only [evE, liE, letsOf, letU, snd] at h3); (try simp only [cmE] at h3)); simp [cm]; omega
  rintro _ _ _ ⟨rfl, x1, rfl, hx1⟩
  refine .env (by (try simp only [liE, letsOf, letU, snd, List.append_nil]); rfl) (.ite (fun h2 => ?_) (fun h2 => .ret rfl ⟨q, cq, ?_⟩))
  · replace h2 : x1 = true := h2
    replace h2 := hx1.1 h2
    clear hx1
    obtain ⟨k, rfl⟩ : ∃ k, n = k + 1 := ⟨n - 1, by omega⟩
    have ei := add_i64 i (by omega)
    have ej := add_i64 j (by omega)
    refine .join (fun us m' => ∃ (x : Int × Int) (q : Option Addr) (cq i j : Nat), us = [.p q, .i ((out ++ [x]).length : Nat), .i (cq : Nat), .i i, .i j] ∧ i ≤ a.length ∧ j ≤ b.length ∧ (a.length - i) + (b.length - j) ≤ k ∧ alignE ws gap a b = (out ++ [x]) ++ algA (dC ws gap) gap a b k i j ∧ Tab m' 23 2 .i64 qt ct rs ∧ Row m' 57 2 q cq (out ++ [x]).length (pcells (out ++ [x]))) ?_ ?_
    · have app : ∀ {x : Int × Int} {i' j' : Nat}, algA (dC ws gap) gap a b (k + 1) i j = x :: algA (dC ws gap) gap a b k i' j' → alignE ws gap a b = (out ++ [x]) ++ algA (dC ws gap) gap a b k i' j' := fun h => by rw [hal, h, List.append_assoc]; rfl
      have hpc : ∀ x : Int × Int, pcells (out ++ [x]) = pcells out ++ [.int .i64 x.1, .int .i64 x.2] := fun x => by simp [pcells]
      have hl1 : ∀ x : Int × Int, (out ++ [x]).length = out.length + 1 := fun x => by simp
      refine .join (fun us mm => m = mm ∧ ∃ x : Bool, us = [.b x] ∧ (x = true ↔ i < a.length ∧ j < b.length)) (.chk (by ((try simp only [evE, liE, letsOf, letU, snd]); (try simp only [cmE])); omega) (.ite (fun h3 => .chk (by ((try simp only [evE, liE, letsOf, letU, snd]); (try simp only [cmE])); omega) (.again rfl ⟨rfl, cm .lss (j : Int) (b.length : Int), rfl, ?_⟩)) (fun h3 => .again rfl ⟨rfl, false, rfl, ?_⟩))) ?_
      · ((try simp only [evE, liE, letsOf, letU, snd] at h3); (try simp only [cmE] at h3)); simp [cm]; omega
      · ((try simp only [evE, liE, letsOf, letU, snd] at h3); (try simp only [cmE] at h3)); simp; omega
      rintro _ _ _ ⟨rfl, x2, rfl, hx2⟩
      refine .env (by (try simp only [liE, letsOf, letU, snd, List.append_nil]); rfl) (.join (fun us mm => m = mm ∧ us = [.p q, .i (out.length : Nat), .i (cq : Nat), .i i, .i j] ∧ ∀ (hi : i < a.length) (hj : j < b.length), dC ws gap a[i] b[j] + RA (dC ws gap) gap a b (i + 1) (j + 1) ≠ RA (dC ws gap) gap a b i j) (.ite (fun h3 => ?_) (fun h3 => .again rfl ⟨rfl, by (simp only [evE, liE, letsOf, letU, snd, Sh.uss, Sh.us, atAddr, map_add0, List.append_nil]), ?_⟩)) ?_)
      · replace h3 : x2 = true := h3
        obtain ⟨hi, hj⟩ := hx2.1 h3
        obtain ⟨r1, hr1, hv1⟩ := hat (i + 1) (j + 1) hi hj
        obtain ⟨r0, hr0, hv0⟩ := hat i j hia hjb
        have hd : 0 ≤ dC ws gap a[i] b[j] ∧ dC ws gap a[i] b[j] ≤ 1073741824 * 24 := distC_pos hc
        have b1 := B (i + 1) (j + 1)
        have esum : ar .add .i64 (dC ws gap a[i] b[j]) (RA (dC ws gap) gap a b (i + 1) (j + 1)) = dC ws gap a[i] b[j] + RA (dC ws gap) gap a b (i + 1) (j + 1) := addI (by omega) (by omega)
        refine .loadW a i hi (fun g => hp.1.mono g.R) (.env (by (try simp only [liE, letsOf, letU, snd, List.append_nil]); rfl) (.loadW b j hj (fun g => hp.2.1.mono g.R) (.env (by (try simp only [liE, letsOf, letU, snd, List.append_nil]); rfl) (.callV (c_refDist a[i] b[j] pc cc ws gap (ha.at hi) (hb.at hj)) (fun g => hp.2.2.mono g.R) (.env (by (try simp only [liE, letsOf, letU, snd, List.append_nil]); rfl) (.loadT hT (i + 1) (j + 1) r1 _ hr1 hv1 ?_ rfl (by show ar .add .i64 _ _ = _; exact ei) (by rw [hrl]; rfl) rfl (by show ar .add .i64 _ _ = _; exact ej) rfl))))))
        refine .env (by (try simp only [liE, letsOf, letU, snd, List.append_nil]); rfl) (.loadT hT i j r0 _ hr0 hv0 ?_ rfl rfl (by rw [hrl]; rfl) rfl rfl rfl)
        refine .env (by (try simp only [liE, letsOf, letU, snd, List.append_nil]); rfl) (.ite (fun h4 => ?_) (fun h4 => .again rfl ⟨rfl, by (simp only [evE, liE, letsOf, letU, snd, Sh.uss, Sh.us, atAddr, map_add0, List.append_nil]), ?_⟩))
        · replace h4 : (ar .add .i64 (dC ws gap a[i] b[j]) (RA (dC ws gap) gap a b (i + 1) (j + 1)) == RA (dC ws gap) gap a b i j) = true := h4
          rw [esum, beq_iff_eq] at h4
          refine .alloc fun b2 => .append (q := q) (cap := cq) (n := out.length) (qx := some ⟨b2, 0, none⟩) (kx := 1) (capx := 1) (news := [.int .i64 i, .int .i64 j]) el33 hrow (fun g => g.cells (j := 2) rfl rfl rfl) (by simp) (by simp [Value.oneCell']) (fun h => by cases h) (by simp [maxLen]; omega) (by omega) (fun q' cq' m' hr' hs' _ => .again rfl ⟨((i : Int), (j : Int)), q', cq', i + 1, j + 1, ?_, by omega, by omega, by omega, app (algA_both k hi hj h4), hT.keepA hrow (by decide) (by decide) hs', ?_⟩)
          · (simp only [evE, liE, letsOf, letU, snd, Sh.uss, Sh.us, atAddr, map_add0, List.append_nil]); rw [ei, ej, hl1]
          · rw [hl1, hpc]; exact hr'
        · replace h4 : (ar .add .i64 (dC ws gap a[i] b[j]) (RA (dC ws gap) gap a b (i + 1) (j + 1)) == RA (dC ws gap) gap a b i j) = false := h4
          rw [esum] at h4
          intro _ _ h; rw [h] at h4; simp at h4
      · replace h3 : x2 = false := h3
        subst h3
        intro hi hj; cases hx2.2 ⟨hi, hj⟩
      rintro _ _ _ ⟨rfl, rfl, hne⟩
      refine .env (by (try simp only [liE, letsOf, letU, snd, List.append_nil]); rfl) (.join (fun us mm => m = mm ∧ ∃ x : Bool, us = [.b x] ∧ (x = true ↔ i < a.length ∧ gap + RA (dC ws gap) gap a b (i + 1) j = RA (dC ws gap) gap a b i j)) (.chk (by ((try simp only [evE, liE, letsOf, letU, snd]); (try simp only [cmE])); omega) (.ite (fun h3 => ?_) (fun h3 => .again rfl ⟨rfl, false, rfl, ?_⟩))) ?_)
      · ((try simp only [evE, liE, letsOf, letU, snd] at h3); (try simp only [cmE] at h3))
        obtain ⟨r1, hr1, hv1⟩ := hat (i + 1) j (by omega) hjb
        obtain ⟨r0, hr0, hv0⟩ := hat i j hia hjb
        have b1 := B (i + 1) j
        refine .loadT hT (i + 1) j r1 _ hr1 hv1 ?_ rfl (by show ar .add .i64 _ _ = _; exact ei) (by rw [hrl]; rfl) rfl rfl rfl
        refine .env (by (try simp only [liE, letsOf, letU, snd, List.append_nil]); rfl) (.loadT hT i j r0 _ hr0 hv0 (.again rfl ⟨rfl, cm .eql (gap + RA (dC ws gap) gap a b (i + 1) j) (RA (dC ws gap) gap a b i j), ?_, ?_⟩) rfl rfl (by rw [hrl]; rfl) rfl rfl rfl)
        · (simp only [evE, liE, letsOf, letU, snd, Sh.uss, Sh.us, atAddr, map_add0, List.append_nil]); rw [addI (by omega) (by omega)]
        · simp [cm]; omega
      · ((try simp only [evE, liE, letsOf, letU, snd] at h3); (try simp only [cmE] at h3)); simp; omega
      rintro _ _ _ ⟨rfl, x3, rfl, hx3⟩
      refine .env (by (try simp only [liE, letsOf, letU, snd, List.append_nil]); rfl) (.ite (fun h4 => ?_) (fun h4 => ?_))
      · replace h4 : x3 = true := h4
        obtain ⟨hi, h4⟩ := hx3.1 h4
        refine .alloc fun b2 => .append (q := q) (cap := cq) (n := out.length) (qx := some ⟨b2, 0, none⟩) (kx := 1) (capx := 1) (news := [.int .i64 i, .int .i64 (-1)]) el33 hrow (fun g => g.cells (j := 2) rfl rfl rfl) (by simp) (by simp [Value.oneCell']) (fun h => by cases h) (by simp [maxLen]; omega) (by omega) (fun q' cq' m' hr' hs' _ => .again rfl ⟨((i : Int), -1), q', cq', i + 1, j, ?_, by omega, by omega, by omega, app (algA_one k hi (hne hi) h4), hT.keepA hrow (by decide) (by decide) hs', ?_⟩)
        · (simp only [evE, liE, letsOf, letU, snd, Sh.uss, Sh.us, atAddr, map_add0, List.append_nil]); rw [ei, hl1]
        · rw [hl1, hpc]; exact hr'
      · replace h4 : x3 = false := h4
        subst h4
        have hne2 : i < a.length → gap + RA (dC ws gap) gap a b (i + 1) j ≠ RA (dC ws gap) gap a b i j := fun hi h => by cases hx3.2 ⟨hi, h⟩
        have hj : j < b.length := by
          rcases Nat.lt_or_ge j b.length with h | h
          · exact h
          · have hi : i < a.length := by omega
            exact absurd (RA_cn (d := dC ws gap) (g := gap) hi h).symm (hne2 hi)
        refine .alloc fun b2 => .append (q := q) (cap := cq) (n := out.length) (qx := some ⟨b2, 0, none⟩) (kx := 1) (capx := 1) (news := [.int .i64 (-1), .int .i64 j]) el33 hrow (fun g => g.cells (j := 2) rfl rfl rfl) (by simp) (by simp [Value.oneCell']) (fun h => by cases h) (by simp [maxLen]; omega) (by omega) (fun q' cq' m' hr' hs' _ => .again rfl ⟨(-1, (j : Int)), q', cq', i, j + 1, ?_, by omega, by omega, by omega, app (algA_two k hj (fun hi => hne hi hj) hne2), hT.keepA hrow (by decide) (by decide) hs', ?_⟩)
        · (simp only [evE, liE, letsOf, letU, snd, Sh.uss, Sh.us, atAddr, map_add0, List.append_nil]); rw [ej, hl1]
        · rw [hl1, hpc]; exact hr'
    · rintro _ m' _ ⟨x, q', cq', i', j', rfl, h1', h2', h3', h4', h5', h6'⟩
      exact .env (by (try simp only [liE, letsOf, letU, snd, List.append_nil]); rfl) (.again rfl ⟨k, by omega, out ++ [x], q', cq', i', j', by (simp only [evE, liE, letsOf, letU, snd, Sh.uss, Sh.us, atAddr, map_add0, List.append_nil]), h1', h2', h3', by simp; omega, h4', h5', h6'⟩)
  · replace h2 : x1 = false := h2
    subst h2
    have hx1 : ¬ (i < a.length ∨ j < b.length) := fun h => by cases hx1.2 h
    rw [algA_done _ _ _ _ _ (by omega) (by omega), List.append_nil] at hal
    rw [hal]
    exact ⟨rfl, hrow⟩
end Go.Proofs.YtedfogpnmpmggaaDoor
