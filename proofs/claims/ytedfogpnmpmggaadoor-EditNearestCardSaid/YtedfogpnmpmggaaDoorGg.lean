/- edit.Align. -/
import Derived.Test.YtedfogpnmpmggaaDoorGf
set_option linter.unusedSimpArgs false
set_option linter.unusedVariables false
namespace Go.Sy
open Go Go.RowKit
def alignE (ws : List Int) (gap : Int) (a b : List Snd) : List (Int × Int) := if checkE ws gap [a, b] ≠ 0 then [] else algn (dC ws gap) gap a b
theorem cheap_ne (T : TD) {i j : Nat} (h : i < T.A.w.length ∨ j < T.B.w.length) : T.cheap i j ≠ [] := by
  intro e
  have hs := RA_steps T.d T.gap T.A.w T.B.w i j
  have hf : ∀ x ∈ T.steps i j, ¬ T.pc? i j x = true := by
    rw [T.cheap_eq, List.filter_eq_nil_iff] at e
    exact e
  have hmin : ∀ (l : List Int) (x : Int), l.foldl min x = x ∨ l.foldl min x ∈ l := by
    intro l
    induction l with
    | nil => intro x; exact .inl rfl
    | cons y l ih =>
      intro x
      rcases ih (min x y) with h | h
      · rw [List.foldl_cons, h]
        rcases Int.le_total x y with h' | h'
        · rw [Int.min_eq_left h']; exact .inl rfl
        · rw [Int.min_eq_right h']; exact .inr (by simp)
      · exact .inr (by rw [List.foldl_cons]; simp [h])
  have hne : T.steps i j ≠ [] := by
    unfold TD.steps stepsA
    rcases Nat.lt_or_ge i T.A.w.length with h1 | h1 <;> rcases Nat.lt_or_ge j T.B.w.length with h2 | h2
    · rw [List.getElem?_eq_getElem h1, List.getElem?_eq_getElem h2]; simp
    · rw [List.getElem?_eq_getElem h1, List.getElem?_eq_none h2]; simp
    · rw [List.getElem?_eq_none h1, List.getElem?_eq_getElem h2]; simp
    · omega
  have hmem : RA T.d T.gap T.A.w T.B.w i j ∈ (T.steps i j).map fun x => x.2.2 + RA T.d T.gap T.A.w T.B.w x.1 x.2.1 := by
    rw [hs]
    show minL ((T.steps i j).map _) ∈ (T.steps i j).map _
    cases hl : T.steps i j with
    | nil => exact absurd hl hne
    | cons z l =>
      simp only [List.map_cons, minL]
      rcases hmin (l.map fun x => x.2.2 + RA T.d T.gap T.A.w T.B.w x.1 x.2.1) (z.2.2 + RA T.d T.gap T.A.w T.B.w z.1 z.2.1) with h | h
      · rw [h]; simp
      · exact List.mem_cons_of_mem _ h
  obtain ⟨x, hx, hxe⟩ := List.mem_map.1 hmem
  refine hf x hx ?_
  show (x.2.2 + T.R x.1 x.2.1 == T.R i j) = true
  rw [beq_iff_eq]; exact hxe
theorem algA_done (d : Snd → Snd → Int) (g : Int) (a b : List Snd) (k : Nat) {i j : Nat} (hi : a.length ≤ i) (hj : b.length ≤ j) : algA d g a b k i j = [] := by
  cases k with
  | zero => rfl
  | succ k =>
    unfold algA cheapA stepsA
    rw [List.getElem?_eq_none hi, List.getElem?_eq_none hj]; rfl
def pairOf (i j : Nat) (x : Stp) : Int × Int := ((if x.1 = i then -1 else (i : Int)), (if x.2.1 = j then -1 else (j : Int)))
theorem algA_step (T : TD) (k : Nat) {i j : Nat} {z : Stp} {l : List Stp} (h : T.cheap i j = z :: l) : algA T.d T.gap T.A.w T.B.w (k + 1) i j = pairOf i j z :: algA T.d T.gap T.A.w T.B.w k z.1 z.2.1 := by
  have h : cheapA T.d T.gap T.A.w T.B.w i j = z :: l := h
  simp only [algA, h]; rfl
theorem algA_len (d : Snd → Snd → Int) (g : Int) (a b : List Snd) (k i j : Nat) : (algA d g a b k i j).length ≤ k := by
  induction k generalizing i j with
  | zero => simp [algA]
  | succ k ih =>
    simp only [algA]
    split
    · simp
    · simp; exact ih _ _
theorem Row.block {m : Mem} {e : TypeId} {size : Nat} {q : Option Addr} {cap n : Nat} {xs : List Value} (h : Row m e size q cap n xs) {b : Nat} {e' : TypeId} {v : Value} (hb : m b = some (box e' v)) (he : e' ≠ e) {g : Nat} (hq : q = some ⟨g, 0, none⟩) : g ≠ b := by
  rintro rfl
  rcases h.2 with ⟨h1, _⟩ | ⟨g', cur, h1, h2, _⟩
  · rw [h1] at hq; cases hq
  · rw [h1] at hq; cases hq
    rw [hb] at h2
    simp only [box, Option.some.injEq, Obj.cells.injEq] at h2
    exact he h2.2.1
end Go.Sy
namespace Go.Proofs.YtedfogpnmpmggaaDoor
open Go Go.Sy Go.RowKit
theorem el33 : El Tryd.prog 33 57 2 16 := El.of (by kernel_rfl)
set_option maxHeartbeats 2000000 in
theorem c_editAlign (A B : WD) (pc : Option Addr) (cc : Nat) (ws : List Int) (gap : Int) (ha : Wok A.w) (hb : Wok B.w) :
    FnM Tryd.prog n_edit_Align [A.v, B.v, costs pc ws.length cc gap] (fun R => WordAt R A.p A.w ∧ WordAt R B.p B.w ∧ CostsAt R pc ws ∧ TabOk R) fun v mq _ =>
      ∃ q cq, v = .tuple #[slv q (alignE ws gap A.w B.w).length cq, .int .i64 (checkE ws gap [A.w, B.w])] ∧ Row mq 57 2 q cq (alignE ws gap A.w B.w).length (pcells (alignE ws gap A.w B.w)) := by
  obtain ⟨pa, ca, a⟩ := A
  obtain ⟨pb, cb, b⟩ := B
  simp only [] at ha hb
  refine FnM.of S_edit_Align mx [.p pa, .i a.length, .i ca, .p pb, .i b.length, .i cb, .p pc, .i ws.length, .i cc, .i gap] rfl rfl fun c hp => .alloc fun b0 => ?_
  obtain ⟨hp1, hp2, hp3, hp4⟩ := hp
  refine .callM (c_newTable ⟨pa, ca, a⟩ ⟨pb, cb, b⟩ pc cc ws gap ha hb) rfl rfl (fun g => ⟨hp1.mono g.R, hp2.mono g.R, hp3.mono g.R, hp4.mono g.R⟩) ?_
  rintro v mq hfr ⟨hv1, hv2⟩
  simp only [] at hv1 hv2 ⊢
  by_cases he : checkE ws gap [a, b] = 0
  case neg =>
    obtain rfl := hv1 he
    refine ⟨[.p none, .i (checkE ws gap [a, b])], uOk_of rfl, rfl, .yes (by ((try simp only [BT.eval, IT.eval, SV.den, SV.dens, Env.int, Env.bool, Env.val, Env.ptr, letsOf, letU, snd, List.flatMap_cons, List.flatMap_nil, List.cons_append, List.nil_append, List.append_assoc, List.getElem?_cons_zero, List.getElem?_cons_succ]); (try simp only [cm, cond_true, cond_false, pick_or, pick_and, Bool.or_eq_true, Bool.and_eq_true, Bool.or_eq_false_iff, Bool.and_eq_false_iff, Bool.not_eq_true', Bool.not_eq_false', decide_eq_true_eq, decide_eq_false_iff_not, beq_iff_eq, beq_eq_false_iff_ne, bne_iff_ne, bne_eq_false_iff_eq, ge_iff_le, gt_iff_lt, Int.not_lt, Int.not_le])); simp [he]) (.ret rfl ⟨none, 0, ?_⟩)⟩
    unfold alignE
    rw [if_pos he]
    exact ⟨rfl, Row.nil _ _ _⟩
  obtain ⟨tb, hT, rfl, hmq⟩ := hv2 he
  refine ⟨[.p (some ⟨tb, 0, none⟩), .i 0], uOk_of rfl, rfl, .no rfl (.alloc fun b1 => ?_)⟩
  generalize hTe : (⟨tb, ⟨pa, ca, a⟩, ⟨pb, cb, b⟩, pc, cc, ws, gap⟩ : TD) = T at hT hmq
  have hTb : T.tb = tb := by rw [← hTe]
  have hTa : T.A.w = a := by rw [← hTe]
  have hTb' : T.B.w = b := by rw [← hTe]
  have hspec : alignE ws gap a b = algA T.d T.gap T.A.w T.B.w (a.length + b.length) 0 0 := by
    unfold alignE
    rw [if_neg (by simp [he]), ← hTe]; rfl
  have hlen64 : (alignE ws gap a b).length ≤ 64 := by
    have h1 := algA_len T.d T.gap T.A.w T.B.w (a.length + b.length) 0 0
    have := hT.la; have := hT.lb
    rw [hspec]
    rw [hTa] at *; rw [hTb'] at *
    omega
  have hown := (hfr tb (by rw [hmq]; simp)).2.2
  have hS : TD.full T (TD.SF T c) := TD.SF_full (by rw [hTb]; exact hown) (by rw [← hTe]; exact hp1) (by rw [← hTe]; exact hp2) (by rw [← hTe]; exact hp3) hp4
  have hm0 : (Mem.emp.join mq) tb = some (.cells (gcells T.hd .i64 (T.F 0 0)).toArray 79 (0, 0)) := hmq
  generalize Mem.emp.join mq = m0 at hm0 ⊢
  rw [he]
  -- the two variables
  refine .allocc fun bi0 hi0 _ _ => .allocc fun bj0 hj0 _ _ => ?_
  have hb0 : bi0 ≠ bj0 := fun e => by rw [← e, Mem.upd_same] at hj0; cases hj0
  have ht1 : tb ≠ bi0 := fun e => by rw [← e, hm0] at hi0; cases hi0
  have ht2 : tb ≠ bj0 := fun e => by rw [← e, Mem.upd_other _ _ ht1, hm0] at hj0; cases hj0
  refine .store bi0 0 #[.int .i64 0] 3 rfl rfl (by rw [Mem.upd_other _ _ hb0, Mem.upd_same]; rfl) (by simp) (.store bj0 0 #[.int .i64 0] 3 rfl rfl (by rw [Mem.upd_other _ _ (Ne.symm hb0), Mem.upd_same]; rfl) (by simp) ?_)
  refine .env (by (try simp only [letsOf, letU, snd, List.flatMap_cons, List.flatMap_nil, List.cons_append, List.nil_append, List.append_assoc, List.append_nil]); rfl) (.loop (fun n us m => ∃ (i j bi bj : Nat) (q : Option Addr) (cq : Nat) (out : List (Int × Int)), us = [.p (some ⟨bi, 0, none⟩), .p (some ⟨bj, 0, none⟩), .p q, .i out.length, .i cq] ∧ i ≤ a.length ∧ j ≤ b.length ∧ bi ≠ bj ∧
      (a.length - i) + (b.length - j) ≤ n ∧ alignE ws gap a b = out ++ algA T.d T.gap T.A.w T.B.w n i j ∧ m tb = some (.cells (gcells T.hd .i64 (T.F 0 0)).toArray 79 (0, 0)) ∧ m bi = some (box 3 (.int .i64 (i : Int))) ∧ m bj = some (box 3 (.int .i64 (j : Int))) ∧ Row m 57 2 q cq out.length (pcells out)) (a.length + b.length)
    ⟨0, 0, bi0, bj0, none, 0, [], rfl, Nat.zero_le _, Nat.zero_le _, hb0, by omega, by rw [hspec]; rfl, ?_, ?_, Mem.upd_same .., Row.nil _ _ _⟩ ?_)
  · rw [Mem.upd_other _ _ ht2, Mem.upd_other _ _ ht1, Mem.upd_other _ _ ht2, Mem.upd_other _ _ ht1]; exact hm0
  · rw [Mem.upd_other _ _ hb0, Mem.upd_same]; rfl
  rintro n _ m _ ⟨i, j, bi, bj, q, cq, out, rfl, hi, hj, hbij, hn, hal, hm, hbi, hbj, hrow⟩
  have hla : a.length ≤ 32 := by have := hT.la; rw [hTa] at this; exact this
  have hlb : b.length ≤ 32 := by have := hT.lb; rw [hTb'] at this; exact this
  refine .join (fun us m' => us = [.b (decide (i < a.length ∨ j < b.length))] ∧ m = m') ?_ ?_
  · refine .loadB (.int .i64 (i : Int)) bi 3 rfl hbi (.chk (by ((try simp only [BT.eval, IT.eval, SV.den, SV.dens, Env.int, Env.bool, Env.val, Env.ptr, letsOf, letU, snd, List.flatMap_cons, List.flatMap_nil, List.cons_append, List.nil_append, List.append_assoc, List.getElem?_cons_zero, List.getElem?_cons_succ]); (try simp only [cm, cond_true, cond_false, pick_or, pick_and, Bool.or_eq_true, Bool.and_eq_true, Bool.or_eq_false_iff, Bool.and_eq_false_iff, Bool.not_eq_true', Bool.not_eq_false', decide_eq_true_eq, decide_eq_false_iff_not, beq_iff_eq, beq_eq_false_iff_ne, bne_iff_ne, bne_eq_false_iff_eq, ge_iff_le, gt_iff_lt, Int.not_lt, Int.not_le])); omega) (.ite (fun h4 => .again rfl ⟨?_, rfl⟩) (fun h4 => .loadB (.int .i64 (j : Int)) bj 3 rfl hbj (.chk (by ((try simp only [BT.eval, IT.eval, SV.den, SV.dens, Env.int, Env.bool, Env.val, Env.ptr, letsOf, letU, snd, List.flatMap_cons, List.flatMap_nil, List.cons_append, List.nil_append, List.append_assoc, List.getElem?_cons_zero, List.getElem?_cons_succ]); (try simp only [cm, cond_true, cond_false, pick_or, pick_and, Bool.or_eq_true, Bool.and_eq_true, Bool.or_eq_false_iff, Bool.and_eq_false_iff, Bool.not_eq_true', Bool.not_eq_false', decide_eq_true_eq, decide_eq_false_iff_not, beq_iff_eq, beq_eq_false_iff_ne, bne_iff_ne, bne_eq_false_iff_eq, ge_iff_le, gt_iff_lt, Int.not_lt, Int.not_le])); omega) (.again rfl ⟨?_, rfl⟩))))) <;> ((try simp only [BT.eval, IT.eval, SV.den, SV.dens, Env.int, Env.bool, Env.val, Env.ptr, letsOf, letU, snd, List.flatMap_cons, List.flatMap_nil, List.cons_append, List.nil_append, List.append_assoc, List.getElem?_cons_zero, List.getElem?_cons_succ] at h4); (try simp only [cm, cond_true, cond_false, pick_or, pick_and, Bool.or_eq_true, Bool.and_eq_true, Bool.or_eq_false_iff, Bool.and_eq_false_iff, Bool.not_eq_true', Bool.not_eq_false', decide_eq_true_eq, decide_eq_false_iff_not, beq_iff_eq, beq_eq_false_iff_ne, bne_iff_ne, bne_eq_false_iff_eq, ge_iff_le, gt_iff_lt, Int.not_lt, Int.not_le] at h4))
    · (simp only [letsOf, letU, snd, List.flatMap_cons, List.flatMap_nil, Sh.uss, Sh.us, IT.eval, BT.eval, SV.den, SV.dens, Env.int, Env.bool, Env.val, Env.ptr, atAddr, map_add0, List.append_assoc, List.cons_append, List.nil_append, List.append_nil, List.getElem?_cons_zero, List.getElem?_cons_succ])
      have : i < a.length := by omega
      simp [this]
    · (simp only [letsOf, letU, snd, List.flatMap_cons, List.flatMap_nil, Sh.uss, Sh.us, IT.eval, BT.eval, SV.den, SV.dens, Env.int, Env.bool, Env.val, Env.ptr, atAddr, map_add0, List.append_assoc, List.cons_append, List.nil_append, List.append_nil, List.getElem?_cons_zero, List.getElem?_cons_succ])
      show [U.b (decide ((j : Int) < (b.length : Int)))] = _
      have : ¬ i < a.length := by omega
      simp [this]
  rintro _ m' _ ⟨rfl, rfl⟩
  refine .ite (fun h4 => ?_) (fun h4 => .ret rfl ?_)
  · have h4' : i < a.length ∨ j < b.length := by
      have h4 : decide (i < a.length ∨ j < b.length) = true := h4
      simpa using h4
    obtain ⟨k, rfl⟩ : ∃ k, n = k + 1 := ⟨n - 1, by omega⟩
    have hcn := cheap_ne T (i := i) (j := j) (by rw [hTa, hTb']; exact h4')
    obtain ⟨z, zs, hz⟩ : ∃ z zs, T.cheap i j = z :: zs := by
      cases h : T.cheap i j with
      | nil => exact absurd h hcn
      | cons z zs => exact ⟨z, zs, rfl⟩
    rw [algA_step T k hz] at hal
    have hzm : z ∈ T.steps i j := by
      have : z ∈ T.cheap i j := by rw [hz]; simp
      rw [T.cheap_eq] at this
      exact (List.mem_filter.1 this).1
    obtain ⟨z1, z2, z3, _, z5, z6, z7, z8⟩ := T.steps_le (by rw [hTa]; exact hi) (by rw [hTb']; exact hj) hzm
    rw [hTa] at z1; rw [hTb'] at z2
    have hnk : (a.length - z.1) + (b.length - z.2.1) ≤ k := by omega
    have hol : out.length < 64 := by
      have := congrArg List.length hal
      simp at this
      omega
    refine .loadB (.int .i64 (i : Int)) bi 3 rfl hbi (.loadB (.int .i64 (j : Int)) bj 3 rfl hbj ?_)
    refine .env (by (try simp only [letsOf, letU, snd, List.flatMap_cons, List.flatMap_nil, List.cons_append, List.nil_append, List.append_assoc, List.append_nil]); rfl) (.callM (c_cheapest tb i j) rfl rfl (fun _ => trivial) ?_)
    rintro v mq' hfr' ⟨c0, c1, c2, rfl, rfl, h01, h02, h12⟩
    refine ⟨[.v _], ⟨_, rfl, rfl⟩, rfl, ?_⟩
    refine .join (fun us m' => ∃ (q' : Option Addr) (cq' : Nat), us = [.p q', .i ((out.length + 1 : Nat) : Int), .i cq'] ∧ m' tb = some (.cells (gcells T.hd .i64 (T.F 0 0)).toArray 79 (0, 0)) ∧ m' bi = some (box 3 (.int .i64 (z.1 : Int))) ∧ m' bj = some (box 3 (.int .i64 (z.2.1 : Int))) ∧ Row m' 57 2 q' cq' (out.length + 1) (pcells (out ++ [pairOf i j z]))) ?_ ?_
    · refine .range n___edit_table__cheapest_1 _ ((T.cheap i j).map stepU) (fun w => (TD.SF T c).le (Mv.of w)) (box3 c0 c1 c2 tb i j) m
        (fun k us m' => k = 0 ∧ us = [.p q, .i out.length, .i cq] ∧ m = m')
        (fun n us m' => n = 4 ∧ ∃ (q' : Option Addr) (cq' : Nat), us = [.p q', .i ((out.length + 1 : Nat) : Int), .i cq'] ∧ m' tb = some (.cells (gcells T.hd .i64 (T.F 0 0)).toArray 79 (0, 0)) ∧ m' bi = some (box 3 (.int .i64 (z.1 : Int))) ∧ m' bj = some (box 3 (.int .i64 (z.2.1 : Int))) ∧ Row m' 57 2 q' cq' (out.length + 1) (pcells (out ++ [pairOf i j z])))
        rfl (by kernel_rfl) rfl ?_ ?_ ?_ ?_ ?_ ?_ ?_ ?_
      · intro k hk
        cases hq : box3 c0 c1 c2 tb i j k with
        | none => rfl
        | some o => exact absurd (hfr' k (by rw [hq]; simp)).1 hk
      · intro ux hx
        obtain ⟨z, _, rfl⟩ := List.mem_map.1 hx; rfl
      · have := it_cheapest T hT i j (by rw [hTa]; exact hi) (by rw [hTb']; exact hj) c0 c1 c2 h01 h02 h12 (TD.SF T c) hS
        rw [hTb] at this
        rw [List.map_map]
        exact this
      · exact ⟨rfl, by (simp only [letsOf, letU, snd, List.flatMap_cons, List.flatMap_nil, Sh.uss, Sh.us, IT.eval, BT.eval, SV.den, SV.dens, Env.int, Env.bool, Env.val, Env.ptr, atAddr, map_add0, List.append_assoc, List.cons_append, List.nil_append, List.append_nil, List.getElem?_cons_zero, List.getElem?_cons_succ]), rfl⟩
      · rintro k us m2 w ⟨_, _, rfl⟩ hwd
        exact TD.SF_le (by rw [hTb]; exact hm) hwd
      · rintro k us ux m2 _ hx ⟨rfl, rfl, rfl⟩
        rw [hz] at hx
        simp only [List.map_cons, List.getElem?_cons_zero, Option.some.injEq] at hx
        subst hx
        unfold stepU
        refine .good fun g0 => ?_
        have hcb : ¬ c.hb.own bi := g0.mem bi (by rw [hbi]; simp)
        clear g0
        refine .alloc fun _ => .loadB (.int .i64 (i : Int)) bi 3 rfl hbi (.loadB (.int .i64 (j : Int)) bj 3 rfl hbj (.alloc fun _ => .loadB (.int .i64 (i : Int)) bi 3 rfl hbi ?_))
        refine .join (fun us m' => us = [.i (pairOf i j z).1, .i (j : Int)] ∧ m = m') ?_ ?_
        · refine .ite (fun h5 => .again rfl ⟨?_, rfl⟩) (fun h5 => .again rfl ⟨?_, rfl⟩) <;> replace h5 : ((z.1 : Int) == (i : Int)) = _ := h5
          · (simp only [letsOf, letU, snd, List.flatMap_cons, List.flatMap_nil, Sh.uss, Sh.us, IT.eval, BT.eval, SV.den, SV.dens, Env.int, Env.bool, Env.val, Env.ptr, atAddr, map_add0, List.append_assoc, List.cons_append, List.nil_append, List.append_nil, List.getElem?_cons_zero, List.getElem?_cons_succ])
            have : z.1 = i := by have := beq_iff_eq.1 h5; omega
            simp [pairOf, this]
          · (simp only [letsOf, letU, snd, List.flatMap_cons, List.flatMap_nil, Sh.uss, Sh.us, IT.eval, BT.eval, SV.den, SV.dens, Env.int, Env.bool, Env.val, Env.ptr, atAddr, map_add0, List.append_assoc, List.cons_append, List.nil_append, List.append_nil, List.getElem?_cons_zero, List.getElem?_cons_succ])
            have : ¬ z.1 = i := fun e => by rw [e, beq_self_eq_true] at h5; cases h5
            simp [pairOf, this]
        rintro _ m' _ ⟨rfl, rfl⟩
        refine .loadB (.int .i64 (j : Int)) bj 3 rfl hbj ?_
        refine .joinC (c.unk bi 3) (fun us m' => us = [.i (pairOf i j z).1, .i (pairOf i j z).2] ∧ m.del bi = m') ?_ ?_
        · refine .ite (fun h5 => .againU rfl hbi ⟨?_, rfl⟩) (fun h5 => .againU rfl hbi ⟨?_, rfl⟩) <;> replace h5 : ((z.2.1 : Int) == (j : Int)) = _ := h5
          · (simp only [letsOf, letU, snd, List.flatMap_cons, List.flatMap_nil, Sh.uss, Sh.us, IT.eval, BT.eval, SV.den, SV.dens, Env.int, Env.bool, Env.val, Env.ptr, atAddr, map_add0, List.append_assoc, List.cons_append, List.nil_append, List.append_nil, List.getElem?_cons_zero, List.getElem?_cons_succ])
            have : z.2.1 = j := by have := beq_iff_eq.1 h5; omega
            simp [pairOf, this]
          · (simp only [letsOf, letU, snd, List.flatMap_cons, List.flatMap_nil, Sh.uss, Sh.us, IT.eval, BT.eval, SV.den, SV.dens, Env.int, Env.bool, Env.val, Env.ptr, atAddr, map_add0, List.append_assoc, List.cons_append, List.nil_append, List.append_nil, List.getElem?_cons_zero, List.getElem?_cons_succ])
            have : ¬ z.2.1 = j := fun e => by rw [e, beq_self_eq_true] at h5; cases h5
            simp [pairOf, this]
        rintro _ m' _ ⟨rfl, rfl⟩
        have hrow' : Row (m.del bi) 57 2 q cq out.length (pcells out) := hrow.keep fun g hg _ => Mem.del_other _ (hrow.block hbi (by decide) hg)
        refine .alloc fun b4 => .env (by (try simp only [letsOf, letU, snd, List.flatMap_cons, List.flatMap_nil, List.cons_append, List.nil_append, List.append_assoc, List.append_nil]); rfl) (.append (q := q) (cap := cq) (n := out.length) (qx := some ⟨b4, 0, none⟩) (kx := 1) (capx := 1) (news := [.int .i64 (pairOf i j z).1, .int .i64 (pairOf i j z).2]) el33 hrow' (fun g i u hu => ⟨b4, 0, rfl, ?_⟩) (by simp) (by simp [Value.oneCell']) (fun h => by cases h) (by simp [maxLen]; omega) (by omega) (fun q' cq' m3 hr' hk3 hq' => ?_))
        · rw [g.at (j := 4) rfl rfl, Nat.zero_add]; exact hu
        have hkeep : ∀ k, k ≠ bi → (∀ g, q = some ⟨g, 0, none⟩ → g ≠ k) → m k ≠ none → m3 k = m k := fun k h1 h2 h3 => by
          rw [hk3 k (fun ⟨o, ho⟩ => ?_) (by rw [Mem.del_other _ h1]; exact h3), Mem.del_other _ h1]
          exfalso
          rcases hrow.2 with ⟨e1, _⟩ | ⟨g, _, e1, _⟩
          · rw [e1] at ho; cases ho
          · rw [e1] at ho; cases ho
            exact h2 _ e1 rfl
        have htb : tb ≠ bi := fun e => (box_ne hbi hm) e.symm
        have htq : ∀ g, q = some ⟨g, 0, none⟩ → g ≠ tb := fun g hg e => by
          rcases hrow.2 with ⟨e1, _⟩ | ⟨g', cur, e1, e2, _⟩
          · rw [e1] at hg; cases hg
          · rw [e1] at hg; cases hg
            rw [e, hm] at e2
            simp only [Option.some.injEq, Obj.cells.injEq] at e2
            exact absurd e2.2.1 (by decide)
        have hmt3 := (hkeep tb htb htq (by rw [hm]; simp)).trans hm
        have hmj3 := (hkeep bj (Ne.symm hbij) (fun g hg => hrow.block hbj (by decide) hg) (by rw [hbj]; simp)).trans hbj
        refine .env (by (try simp only [letsOf, letU, snd, List.flatMap_cons, List.flatMap_nil, List.cons_append, List.nil_append, List.append_assoc, List.append_nil]); rfl) (.storeU hcb rfl (fun hm3 => ?_))
        have hr3 : Row (m3.upd bi (box 3 (.int .i64 (z.1 : Int)))) 57 2 q' cq' (out.length + 1) (pcells (out ++ [pairOf i j z])) := by
          rw [pcells_append]
          refine hr'.keep fun g hg hg' => Mem.upd_other _ _ fun e => ?_
          rw [e, hm3] at hg'; exact hg' rfl
        have hbj4 : (m3.upd bi (box 3 (.int .i64 (z.1 : Int)))) bj = some (box 3 (.int .i64 (j : Int))) := by rw [Mem.upd_other _ _ (Ne.symm hbij)]; exact hmj3
        refine .store bj 0 #[.int .i64 (j : Int)] 3 rfl rfl hbj4 (by simp) (.leave (.inr ⟨by decide, rfl, q', cq', ?_, ?_, ?_, ?_, ?_⟩))
        · (simp only [letsOf, letU, snd, List.flatMap_cons, List.flatMap_nil, Sh.uss, Sh.us, IT.eval, BT.eval, SV.den, SV.dens, Env.int, Env.bool, Env.val, Env.ptr, atAddr, map_add0, List.append_assoc, List.cons_append, List.nil_append, List.append_nil, List.getElem?_cons_zero, List.getElem?_cons_succ])
        · rw [Mem.upd_other _ _ (fun e => (box_ne hbj hm) e.symm), Mem.upd_other _ _ htb]; exact hmt3
        · rw [Mem.upd_other _ _ hbij, Mem.upd_same]; rfl
        · rw [Mem.upd_same]; rfl
        · refine hr3.keep fun g hg hg' => Mem.upd_other _ _ (hr3.block hbj4 (by decide) hg)
      · rintro us m2 _ ⟨h0, _⟩
        rw [hz] at h0; simp at h0
      · rintro n us m2 _ _ ⟨rfl, q', cq', rfl, hE⟩
        refine .ite (fun _ => .again rfl ⟨q', cq', ?_, hE⟩) (fun _ => .again rfl ⟨q', cq', ?_, hE⟩) <;> (simp only [letsOf, letU, snd, List.flatMap_cons, List.flatMap_nil, Sh.uss, Sh.us, IT.eval, BT.eval, SV.den, SV.dens, Env.int, Env.bool, Env.val, Env.ptr, atAddr, map_add0, List.append_assoc, List.cons_append, List.nil_append, List.append_nil, List.getElem?_cons_zero, List.getElem?_cons_succ])
    rintro _ m2 _ ⟨q', cq', rfl, hm2, hbi2, hbj2, hrow2⟩
    refine .loadB (.int .i64 (z.1 : Int)) bi 3 rfl hbi2 (.loadB (.int .i64 (z.2.1 : Int)) bj 3 rfl hbj2 ?_)
    refine .env (by (try simp only [letsOf, letU, snd, List.flatMap_cons, List.flatMap_nil, List.cons_append, List.nil_append, List.append_assoc, List.append_nil]); rfl) (.allocc fun bi' hi0 _ _ => .store bi' 0 #[.int .i64 0] 3 rfl rfl (by rw [Mem.upd_same]; rfl) (by simp) ?_)
    refine .allocc fun bj' hj0 _ _ => .store bj' 0 #[.int .i64 0] 3 rfl rfl (by rw [Mem.upd_same]; rfl) (by simp) ?_
    have hb' : bi' ≠ bj' := fun e => by rw [← e, Mem.upd_same] at hj0; cases hj0
    have keep : ∀ k, m2 k ≠ none → k ≠ bi' ∧ k ≠ bj' := fun k hk => by
      have h1 : k ≠ bi' := fun e => by rw [e, hi0] at hk; exact hk rfl
      refine ⟨h1, fun e => ?_⟩
      rw [← e, Mem.upd_other _ _ h1, Mem.upd_other _ _ h1] at hj0
      exact hk hj0
    refine .again rfl ⟨k, Nat.lt_succ_self k, z.1, z.2.1, bi', bj', q', cq', out ++ [pairOf i j z], ?_, z1, z2, hb', hnk, by rw [hal]; simp, ?_, ?_, ?_, ?_⟩
    · (simp only [letsOf, letU, snd, List.flatMap_cons, List.flatMap_nil, Sh.uss, Sh.us, IT.eval, BT.eval, SV.den, SV.dens, Env.int, Env.bool, Env.val, Env.ptr, atAddr, map_add0, List.append_assoc, List.cons_append, List.nil_append, List.append_nil, List.getElem?_cons_zero, List.getElem?_cons_succ]); simp
    · obtain ⟨k1, k2⟩ := keep tb (by rw [hm2]; simp)
      rw [Mem.upd_other _ _ k2, Mem.upd_other _ _ k2, Mem.upd_other _ _ k1, Mem.upd_other _ _ k1]; exact hm2
    · rw [Mem.upd_other _ _ hb', Mem.upd_other _ _ hb', Mem.upd_same]; rfl
    · rw [Mem.upd_same]; rfl
    · have hr2 : Row m2 57 2 q' cq' (out ++ [pairOf i j z]).length (pcells (out ++ [pairOf i j z])) := by simpa using hrow2
      refine hr2.keep fun g hg hg' => ?_
      obtain ⟨k1, k2⟩ := keep g hg'
      rw [Mem.upd_other _ _ k2, Mem.upd_other _ _ k2, Mem.upd_other _ _ k1, Mem.upd_other _ _ k1]
  · have h4' : ¬ (i < a.length ∨ j < b.length) := by
      have h4 : decide (i < a.length ∨ j < b.length) = false := h4
      simpa using h4
    rw [algA_done _ _ _ _ _ (by rw [hTa]; omega) (by rw [hTb']; omega), List.append_nil] at hal
    rw [hal]
    exact ⟨q, cq, rfl, hrow⟩
end Go.Proofs.YtedfogpnmpmggaaDoor
