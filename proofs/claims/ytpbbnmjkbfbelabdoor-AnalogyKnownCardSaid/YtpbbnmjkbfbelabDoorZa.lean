/- Chapter 30: what a form costs, of both. -/
import Derived.Test.YtpbbnmjkbfbelabDoorBe
import Derived.Test.YtpbbnmjkbfbelabDoorXj
import Derived.Test.YtpbbnmjkbfbelabDoorWv
set_option linter.unusedSimpArgs false
set_option linter.unusedVariables false
namespace Go.Sy
open Go Go.RowKit
def costM (ws : List Int) (gap : Int) (ms : List MD) (f r a : List Snd) : Int × Int :=
  if checkC ws gap ≠ 0 then (0, checkC ws gap) else if chkM ms [f, r, a] ≠ 0 then (0, chkM ms [f, r, a]) else if r = a then (0, 0) else
  (if ms.any (supM f a) = true then min (costE ws gap [r, a] (progE ws gap [r, a] 2)) gap else costE ws gap [r, a] (progE ws gap [r, a] 2), 0)
theorem checkA_al {W : List (List Snd)} {cols : List (List Int)} (hw : wordsE 8 W = 0) (hal : isAl W cols = true) : checkA W cols = 0 := by
  unfold checkA; rw [if_neg (by simp [hw]), if_pos hal]
theorem score_al {ws : List Int} {gap : Int} {W : List (List Snd)} {cols : List (List Int)} (hc : checkC ws gap = 0) (hw : wordsE 8 W = 0) (hal : isAl W cols = true) : scoreM ws gap W cols = (costE ws gap W cols, 0) := by
  unfold scoreM; rw [if_neg (by simp [hc]), if_neg (by simp [checkA_al hw hal])]
theorem progA_ok {ws : List Int} {gap : Int} {W : List (List Snd)} (hc : checkC ws gap = 0) (hw : wordsE 8 W = 0) : progA ws gap W = (progE ws gap W W.length, 0) := by
  unfold progA; rw [if_neg (by simp [hc]), if_neg (by simp [hw])]
theorem sm_le_mul {n : Nat} {g : Nat → Int} {B : Int} (h : ∀ i, i < n → g i ≤ B) : sm n g ≤ n * B := by
  induction n with
  | zero => show (0 : Int) ≤ ((0 : Nat) : Int) * B; simp
  | succ n ih =>
    have h1 := ih fun i hi => h i (by omega)
    have h2 := h n (by omega)
    show sm n g + g n ≤ ((n + 1 : Nat) : Int) * B
    rw [Int.natCast_add, Int.add_mul]
    have : ((1 : Nat) : Int) * B = B := by simp
    omega
theorem sm_lt {n : Nat} {g h : Nat → Int} (e : ∀ i, i < n → g i ≤ h i) (a : Nat) (ha : a < n) (hl : g a < h a) : sm n g < sm n h := by
  induction n with
  | zero => omega
  | succ n ih =>
    simp only [sm]
    have hle : ∀ m, (∀ i, i < m → g i ≤ h i) → sm m g ≤ sm m h := fun m => by
      induction m with
      | zero => intro _; exact Int.le_refl _
      | succ m ih2 => intro hm; simp only [sm]; have := ih2 fun i hi => hm i (by omega); have := hm m (by omega); omega
    by_cases q : a = n
    · subst q
      have := hle a fun i hi => e i (by omega)
      omega
    · have := ih (fun i hi => e i (by omega)) (by omega)
      have := e n (by omega)
      omega
theorem rows_len_le {n : Nat} : ∀ (cols : List (List Int)) (x y : Nat → Int), (∀ c ∈ cols, c.length = n ∧ ∃ z ∈ c, z ≠ -1) → (∀ k, k < n → rowGo (x k) (rowOf cols k) = some (y k)) → (cols.length : Int) ≤ sm n fun k => y k - x k
  | [], x, y, _, h => by
    have : ∀ m, m ≤ n → sm m (fun k => y k - x k) = 0 := fun m hm => sm_zero fun k hk => by
      have := h k (by omega)
      simp only [rowOf, List.map_nil, rowGo, Option.some.injEq] at this
      omega
    rw [this n (Nat.le_refl _)]; exact Int.le_refl _
  | c :: cols, x, y, hc, h => by
    obtain ⟨hcl, z, hz, hne⟩ := hc c (List.mem_cons_self ..)
    obtain ⟨a, ha, rfl⟩ := List.mem_iff_getElem.1 hz
    have hrow : ∀ k, k < n → rowGo (if labAt c k = -1 then x k else x k + 1) (rowOf cols k) = some (y k) := fun k hk => by
      have := h k hk
      have e : rowOf (c :: cols) k = labAt c k :: rowOf cols k := rfl
      rw [e] at this
      simp only [rowGo] at this
      by_cases h1 : labAt c k = -1
      · rw [if_pos h1] at this ⊢; exact this
      · rw [if_neg h1] at this ⊢
        split at this
        · exact this
        · cases this
    have ih := rows_len_le cols (fun k => if labAt c k = -1 then x k else x k + 1) y (fun d hd => hc d (List.mem_cons_of_mem _ hd)) hrow
    have hlt := sm_lt (n := n) (g := fun k => y k - if labAt c k = -1 then x k else x k + 1) (h := fun k => y k - x k) (fun i hi => by
      by_cases h : labAt c i = -1
      · rw [if_pos h]; omega
      · rw [if_neg h]; omega) a (by omega) (by rw [← labAt_get ha] at hne; rw [if_neg hne]; omega)
    rw [List.length_cons]
    omega
theorem al_len {W : List (List Snd)} {cols : List (List Int)} (h : isAl W cols = true) (h8 : W.length ≤ 8) (hw : ∀ k, k < W.length → wl W k ≤ 32) : cols.length ≤ 256 := by
  obtain ⟨h1, h2⟩ := isAl_of h
  have h3 := rows_len_le cols (fun _ => 0) (fun k => wl W k) h1 h2
  have h4 := sm_le_mul (n := W.length) (g := fun k => wl W k - 0) (B := 32) fun k hk => by have := hw k hk; omega
  omega
theorem wl_32 {W : List (List Snd)} (h : checkL W = 0) : ∀ k, k < W.length → wl W k ≤ 32 := fun k hk => by
  have := words_len h _ (List.getElem_mem hk)
  rw [wl_getD, getD_at _ _ _ hk]; omega
theorem DenM.envL {P : Program} {R : Value → HW → Prop} {Dn : Nat → List U → HW → Prop} {t : Tree} {L L' : List Nat} {ρ : Env} {c : Cx} {m : Mem} {A : List (List U → HW → Prop)} (h : L = L') (hk : DenM P R Dn t L' ρ c m A) : DenM P R Dn t L ρ c m A := h ▸ hk
theorem checkL_ofAll {W : List (List Snd)} (h : ∀ w ∈ W, checkW w = 0) : checkL W = 0 := by
  induction W with
  | nil => rfl
  | cons w W ih =>
    rw [checkL_cons, if_neg (by simp [h w (List.mem_cons_self ..)])]
    exact ih fun x hx => h x (List.mem_cons_of_mem _ hx)
theorem chkM_words {ms : List MD} {f r a : List Snd} (h : chkM ms [f, r, a] = 0) : wordsE 8 [r, a] = 0 := by
  unfold chkM at h
  split at h
  · cases h
  · have h3 : ∀ w ∈ mwords ms ++ [f, r, a], checkW w = 0 := checkL_zero h
    unfold wordsE
    rw [if_neg (by simp)]
    exact checkL_ofAll fun w hw => h3 w (List.mem_append_right _ (by simp only [List.mem_cons, List.not_mem_nil, or_false] at hw ⊢; exact .inr hw))
theorem two_prog {ws : List Int} {gap : Int} {r a : List Snd} (hc : checkC ws gap = 0) (hw : wordsE 8 [r, a] = 0) : progA ws gap [r, a] = (progE ws gap [r, a] 2, 0) := progA_ok hc hw
theorem two_al {ws : List Int} {gap : Int} {r a : List Snd} (hc : checkC ws gap = 0) : isAl [r, a] (progE ws gap [r, a] 2) = true := progE_al hc [r, a] (by simp) 2 (by simp)
theorem mn_min (x y : Int) : (if y < x then y else x) = min x y := by omega
theorem any_index {α : Type} (p : α → Bool) (l : List α) : decide ((match l.findIdx? p with | some i => (i : Int) | none => -1) ≥ 0) = l.any p := by
  cases h : l.findIdx? p with
  | none =>
    rw [List.findIdx?_eq_none_iff] at h
    have : l.any p = false := by rw [List.any_eq_false]; intro x hx; simp [h x hx]
    rw [this]; rfl
  | some i =>
    have : l.any p = true := by
      obtain ⟨hi, hp, _⟩ := List.findIdx?_eq_some_iff_getElem.1 h
      exact List.any_eq_true.2 ⟨_, List.getElem_mem hi, hp⟩
    rw [this]
    exact decide_eq_true (Int.natCast_nonneg i)
end Go.Sy
namespace Go.Proofs.YtpbbnmjkbfbelabDoor
open Go Go.Sy Go.RowKit
theorem c_contains30 (p : Option Addr) (cp : Nat) (ms : List MD) (fv : Value) (hfv : fv.oneCell' = true) (f : MD → Bool) (pre : Mv → Prop) (hpre : ∀ R S : Mv, R.le S → pre R → pre S) (hl : ms.length < 2 ^ 62) (hf : ∀ x ∈ ms, FnV Tryd.prog fv [.agg #[x.a.v, x.b.v]] pre fun v _ _ => v = .bool (f x)) :
    RetP Tryd.prog n_slices_ContainsFunc___api_Pair_api_Pair_ [slv p ms.length cp, fv] (fun R => ModelsAt R p ms ∧ pre R) (.bool (ms.any f)) := by
  refine Fn.of S_slices_ContainsFunc___api_Pair_api_Pair_ mx [.p p, .i ms.length, .i cp, .v fv] (by simp [Sh.eats, Sh.eat, eatV, eatP, eatS, hfv]) rfl fun c hp => .callV (c_index p cp ms fv hfv f pre hpre hl hf) (fun g => ⟨hp.1.mono g.R, hpre _ _ g.R hp.2⟩) (.env (by (try simp only [liE, lO, lU, snd, aN]); rfl) (.ret rfl ?_))
  rw [← any_index f ms]; rfl
theorem c_cost1 (C D : WD) (ms : List MD) (b0 b1 : Nat) (x : MD) (hx : x ∈ ms) (oa : x.a.ok) (ob : x.b.ok) (oc : C.ok) (la : x.a.w.length < 2 ^ 38) (lb : x.b.w.length < 2 ^ 38) (lc : C.w.length < 2 ^ 38) (ld : D.w.length < 2 ^ 38) :
    FnM Tryd.prog n_analogy_Cost_1 ([.agg #[x.a.v, x.b.v]] ++ [.pointer (some ⟨b0, 0, none⟩), .pointer (some ⟨b1, 0, none⟩)]) (ExpAt C D ms b0 b1) fun v _ _ => v = .bool (supM C.w D.w x) := by
  refine Fn.of S_analogy_Cost_1 mx [.p x.a.p, .i x.a.w.length, .i x.a.cap, .p x.b.p, .i x.b.w.length, .i x.b.cap, .p (some ⟨b0, 0, none⟩), .p (some ⟨b1, 0, none⟩)] rfl rfl fun c hp => .alloc fun a0 => ?_
  obtain ⟨h0, h1, hC, hD, hm, hV⟩ := hp
  refine .loadS [C.v] 0 C.p C.w.length C.cap rfl rfl (fun g => h0.mono g.R) (.env (by (try simp only [liE, lO, lU, snd, aN]); rfl) (.loadS [D.v] 0 D.p D.w.length D.cap rfl rfl (fun g => h1.mono g.R) (.env (by (try simp only [liE, lO, lU, snd, aN]); rfl) (.callV (c_supports x.a x.b C D oa ob oc la lb lc ld) (fun g => ⟨(hm x hx).1.mono g.R, (hm x hx).2.mono g.R, hC.mono g.R, hD.mono g.R, hV.mono g.R⟩) (.ret rfl rfl)))))
theorem words3 {R : Mv} {b : Nat} {F G A : WD} (h : Cells R (some ⟨b, 0, none⟩) [F.v, G.v, A.v]) (h1 : WordAt R F.p F.w) (h2 : WordAt R G.p G.w) (h3 : WordAt R A.p A.w) : WordsAt R (some ⟨b, 0, none⟩) [F, G, A] := ⟨h, by
  intro x hx; simp only [List.mem_cons, List.not_mem_nil, or_false] at hx; rcases hx with rfl | rfl | rfl <;> assumption⟩
theorem words2 {R : Mv} {b : Nat} {G A : WD} (h : Cells R (some ⟨b, 0, none⟩) [G.v, A.v]) (h2 : WordAt R G.p G.w) (h3 : WordAt R A.p A.w) : WordsAt R (some ⟨b, 0, none⟩) [G, A] := ⟨h, by
  intro x hx; simp only [List.mem_cons, List.not_mem_nil, or_false] at hx; rcases hx with rfl | rfl <;> assumption⟩
set_option maxHeartbeats 1000000 in
theorem c_costM (p pc : Option Addr) (cp cc : Nat) (ms : List MD) (F G A : WD) (ws : List Int) (gap : Int) (hm : ModelsOk ms) (hf : Wok F.w) (hg : Wok G.w) (ha : Wok A.w) (of : F.ok) (hl : ms.length < 2 ^ 62) (hgl : G.w.length < 2 ^ 62) :
    RetP Tryd.prog n_analogy_Cost [slv p ms.length cp, F.v, G.v, A.v, costs pc ws.length cc gap] (fun R => ModelsAt R p ms ∧ WordAt R F.p F.w ∧ WordAt R G.p G.w ∧ WordAt R A.p A.w ∧ CostsAt R pc ws ∧ VarsAll R) (.tuple #[.int .i64 (costM ws gap ms F.w G.w A.w).1, .int .i64 (costM ws gap ms F.w G.w A.w).2]) := by
  refine Fn.of S_analogy_Cost mx [.p p, .i ms.length, .i cp, .p F.p, .i F.w.length, .i F.cap, .p G.p, .i G.w.length, .i G.cap, .p A.p, .i A.w.length, .i A.cap, .p pc, .i ws.length, .i cc, .i gap] rfl rfl fun c hp => .alloc fun b0 => .alloc fun b1 => .alloc fun b2 => ?_
  obtain ⟨hM, hF, hG, hA, hC, hV⟩ := hp
  refine .callV (c_checkCosts pc cc ws gap) (fun g => hC.mono g.R) (.env (by (try simp only [liE, lO, lU, snd, aN]); rfl) (.ite (fun h1 => .ret rfl ?_) (fun h1 => ?_))) <;> ((try simp only [evE, liE, lO, lU, snd] at h1); (try simp only [cmE] at h1))
  · have : costM ws gap ms F.w G.w A.w = (0, checkC ws gap) := by unfold costM; rw [if_pos h1]
    rw [this]; rfl
  have hok3 : ∀ x ∈ [F, G, A], Wok x.w := by
    intro x hx; simp only [List.mem_cons, List.not_mem_nil, or_false] at hx; rcases hx with rfl | rfl | rfl <;> assumption
  have hok2 : ∀ x ∈ [G, A], Wok x.w := fun x hx => hok3 x (List.mem_cons_of_mem _ hx)
  refine .alloc fun b3 => .callV (c_check p cp ms (some ⟨b3, 0, none⟩) 3 [F, G, A] hm hok3 (by simp)) (fun g => ⟨hM.mono g.R, words3 (g.cells (j := 3) rfl rfl rfl) (hF.mono g.R) (hG.mono g.R) (hA.mono g.R)⟩) (.env (by (try simp only [liE, lO, lU, snd, aN]); rfl) (.ite (fun h2 => .ret rfl ?_) (fun h2 => ?_))) <;> ((try simp only [evE, liE, lO, lU, snd] at h2); (try simp only [cmE] at h2))
  · replace h2 : chkM ms [F.w, G.w, A.w] ≠ 0 := h2
    have : costM ws gap ms F.w G.w A.w = (0, chkM ms [F.w, G.w, A.w]) := by unfold costM; rw [if_neg (by simp [h1]), if_pos h2]
    rw [this]; rfl
  replace h2 : chkM ms [F.w, G.w, A.w] = 0 := h2
  obtain ⟨l0, l1, l2⟩ := chkM_all h2
  simp only [List.mem_cons, List.not_mem_nil, or_false, forall_eq_or_imp, forall_eq] at l2
  refine .callV (c_wordEqual G.p A.p G.cap A.cap G.w A.w hgl) (fun g => ⟨hG.mono g.R, hA.mono g.R⟩) (.env (by (try simp only [liE, lO, lU, snd, aN]); rfl) (.ite (fun h3 => .ret rfl ?_) (fun h3 => ?_)))
  · replace h3 : decide (G.w = A.w) = true := h3
    have : costM ws gap ms F.w G.w A.w = (0, 0) := by unfold costM; rw [if_neg (by simp [h1]), if_neg (by simp [h2]), if_pos (of_decide_eq_true h3)]
    rw [this]; rfl
  replace h3 : decide (G.w = A.w) = false := h3
  have hw := chkM_words h2
  have hcost : costM ws gap ms F.w G.w A.w = (if ms.any (supM F.w A.w) = true then min (costE ws gap [G.w, A.w] (progE ws gap [G.w, A.w] 2)) gap else costE ws gap [G.w, A.w] (progE ws gap [G.w, A.w] 2), 0) := by
    unfold costM; rw [if_neg (by simp [h1]), if_neg (by simp [h2]), if_neg (of_decide_eq_false h3)]
  generalize hD : costE ws gap [G.w, A.w] (progE ws gap [G.w, A.w] 2) = D at hcost
  refine .alloc fun b4 => .envL (by simp only [List.nil_append, List.cons_append]; rfl) ?_
  have kP := c_Progressive (some ⟨b4, 0, none⟩) pc 2 cc [G, A] ws gap (by simp) (by simp) hok2
  simp only [List.map_cons, List.map_nil] at kP
  rw [two_prog h1 hw] at kP
  refine .callE kP (fun g => ⟨words2 (g.cells (j := 4) rfl rfl rfl) (hG.mono g.R) (hA.mono g.R), hC.mono g.R, hV.1.mono g.R, hV.2.1.mono g.R⟩) ?_
  clear kP
  rintro v mq m1 hle hq ⟨q1, k1, t1, rfl, ht1, hT1⟩
  refine ⟨[.p q1, .i (t1.length : Nat), .i k1, .i 0], uOk_of rfl, (tab_fresh _ _ _ _ _ _).symm, .env (by (try simp only [liE, lO, lU, snd, aN]); rfl) (.no rfl ?_)⟩
  replace ht1 : t1.map (·.l) = progE ws gap [G.w, A.w] 2 := ht1
  have hT1 := hT1.le' hq
  clear hle hq
  have hal : isAl [G.w, A.w] (t1.map (·.l)) = true := by rw [ht1]; exact two_al h1
  have hn := al_len hal (by simp) (wl_32 (wordsE_zero hw).2)
  rw [List.length_map] at hn
  have hok1 : ∀ r ∈ t1, r.l.length = 2 := fun r hr => (isAl_ent hal r.l (List.mem_map_of_mem hr)).1
  have kS := c_Score (some ⟨b4, 0, none⟩) q1 pc 2 k1 cc [G, A] t1 ws gap (by simp) hok2 (by omega) (fun r hr => by rw [hok1 r hr]; decide) (fun r hr => (hT1.rows r hr).le)
  simp only [List.map_cons, List.map_nil] at kS
  rw [score_al h1 hw hal, ht1, hD] at kS
  refine .callV kS (fun g => ⟨words2 (g.cells (j := 4) rfl rfl rfl) (hG.mono g.R) (hA.mono g.R), hT1.reads g, hC.mono g.R, hV.1.mono g.R⟩) (.env (by (try simp only [liE, lO, lU, snd, aN]); rfl) (.no rfl ?_))
  clear kS
  refine .callV (c_contains30 p cp ms (.func (.func n_analogy_Cost_1) #[] #[.pointer (some ⟨b0, 0, none⟩), .pointer (some ⟨b1, 0, none⟩)]) rfl (supM F.w A.w) (ExpAt F A ms b0 b1) (fun R S hRS ⟨h0, h1, hC, hD, hm, hV⟩ => ⟨h0.mono hRS, h1.mono hRS, hC.mono hRS, hD.mono hRS, fun x hx => ⟨(hm x hx).1.mono hRS, (hm x hx).2.mono hRS⟩, hV.mono hRS⟩) hl fun x hx => FnV.of (by kernel_rfl) (c_cost1 F A ms b0 b1 x hx (hm x hx).2.2.1 (hm x hx).2.2.2 of (by have := l1 x hx; omega) (by have := l1 x hx; omega) (by omega) (by omega)))
    (fun g => ⟨hM.mono g.R, g.cells (j := 0) rfl rfl rfl, g.cells (j := 1) rfl rfl rfl, hF.mono g.R, hA.mono g.R, fun x hx => ⟨(hM.2 x hx).1.mono g.R, (hM.2 x hx).2.mono g.R⟩, hV.2.2.mono g.R⟩) (.env (by (try simp only [liE, lO, lU, snd, aN]); rfl) ?_)
  rw [hcost]
  generalize ms.any (supM F.w A.w) = e
  refine .ite (fun h4 => .ret rfl ?_) (fun h4 => .ret rfl ?_)
  · replace h4 : e = true := h4
    rw [if_pos h4, ← mn_min]; rfl
  · replace h4 : e = false := h4
    rw [if_neg (by simp [h4])]; rfl
end Go.Proofs.YtpbbnmjkbfbelabDoor
