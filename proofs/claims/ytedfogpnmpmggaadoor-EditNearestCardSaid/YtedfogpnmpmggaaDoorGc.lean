/- The table of smallest costs, as edit makes it. -/
import Derived.Test.YtedfogpnmpmggaaDoorGb
import Derived.Test.YtedfogpnmpmggaaDoorGa
set_option linter.unusedSimpArgs false
set_option linter.unusedVariables false
namespace Go.Sy
open Go Go.RowKit
theorem dens_append (L : List Nat) (ρ : Env) (a b : List SV) : SV.dens L ρ (a ++ b) = SV.dens L ρ a ++ SV.dens L ρ b := by
  induction a with
  | nil => rfl
  | cons x a ih => simp only [List.cons_append, SV.dens, ih]
theorem dens_replicate (L : List Nat) (ρ : Env) (n : Nat) (x : SV) : SV.dens L ρ (List.replicate n x) = List.replicate n (x.den L ρ) := by
  induction n with
  | zero => rfl
  | succ n ih => simp only [List.replicate_succ, SV.dens, ih]
section
variable {P : Program} {c : Cx} {L : List Nat} {ρ : Env} {blks : List Blk} {m : Mem} {R : Value → HW → Prop} {Dn : Nat → List U → HW → Prop} {A : List (List U → HW → Prop)}
/-- A variable that lies in one of the state's blocks, or in memory. -/
theorem DenM.loadV {i : Nat} {s : Sh} {k : Tree} (v : Value) (b : Nat) (e : TypeId) (j0 : Nat) (hp : ρ.ptr i = some ⟨b, 0, none⟩) (h : (∃ blk, L[j0]? = some b ∧ blks[j0]? = some blk ∧ (SV.dens L ρ blk.cells)[0]? = some v) ∨ m b = some (box e v)) (hk : DenM P R Dn k L (ρ ++ letU v) c m A)
    (hus : Sh.eats [s] (letU v) = some [] := by rfl) (hv : SV.dens L (ρ ++ letU v) (Sh.freshs [s] ρ.length).1 = [v] := by rfl) : DenM P R Dn (.load i (.lit 0) [s] blks k) L ρ c m A := by
  rcases h with ⟨blk, h1, h2, h3⟩ | hm
  · refine .load1 v (some ⟨b, 0, none⟩) [v] 0 hp rfl (fun g i x hx => ⟨b, 0, rfl, ?_⟩) rfl hk hus hv
    rw [g.at h1 h2, Nat.zero_add]
    match i, hx with
    | 0, hx => cases hx; exact h3
    | i + 1, hx => simp at hx
  · exact .loadB v b e hp hm hk hus hv
theorem Mem.join_minus {m mq : Mem} (h : ∀ b, mq b ≠ none → m b = none) : (m.join mq).minus mq = m := by
  funext b
  show (match mq b with | some _ => none | none => (match m b with | some o => some o | none => mq b) : Option Obj) = m b
  cases hq : mq b with
  | none => dsimp only; cases m b <;> rfl
  | some o => exact (h b (by rw [hq]; simp)).symm
theorem Mem.join_at {m mq : Mem} {b : Nat} {o : Obj} (h : m b = some o) : m.join mq b = some o := by unfold Mem.join; rw [h]
end
theorem minL_snoc {l : List Int} {x : Int} (h : l ≠ []) : minL (l ++ [x]) = min (minL l) x := by
  cases l with
  | nil => exact absurd rfl h
  | cons y l => simp [minL, List.foldl_append]
theorem TD.steps_le (T : TD) {i j : Nat} (hi : i ≤ T.A.w.length) (hj : j ≤ T.B.w.length) {x : Stp} (hx : x ∈ T.steps i j) : x.1 ≤ T.A.w.length ∧ x.2.1 ≤ T.B.w.length ∧ (i < x.1 ∨ (x.1 = i ∧ j < x.2.1)) ∧ (x.2.2 = T.gap ∨ ∃ s t, x.2.2 = T.d s t) ∧ i ≤ x.1 ∧ x.1 ≤ i + 1 ∧ j ≤ x.2.1 ∧ x.2.1 ≤ j + 1 := by
  unfold TD.steps stepsA at hx
  rcases Nat.lt_or_ge i T.A.w.length with h1 | h1 <;> rcases Nat.lt_or_ge j T.B.w.length with h2 | h2
  · rw [List.getElem?_eq_getElem h1, List.getElem?_eq_getElem h2] at hx
    simp only [List.mem_cons, List.not_mem_nil, or_false] at hx
    rcases hx with rfl | rfl | rfl
    · exact ⟨by simp; omega, by simp; omega, by simp, .inr ⟨_, _, rfl⟩, by simp⟩
    · exact ⟨by simp; omega, by simp; omega, by simp, .inl rfl, by simp⟩
    · exact ⟨by simp; omega, by simp; omega, by simp, .inl rfl, by simp⟩
  · rw [List.getElem?_eq_getElem h1, List.getElem?_eq_none h2] at hx
    simp only [List.mem_cons, List.not_mem_nil, or_false] at hx
    subst hx
    exact ⟨by simp; omega, by simp; omega, by simp, .inl rfl, by simp⟩
  · rw [List.getElem?_eq_none h1, List.getElem?_eq_getElem h2] at hx
    simp only [List.mem_cons, List.not_mem_nil, or_false] at hx
    subst hx
    exact ⟨by simp; omega, by simp; omega, by simp, .inl rfl, by simp⟩
  · rw [List.getElem?_eq_none h1, List.getElem?_eq_none h2] at hx
    simp at hx
theorem TD.ok.cost_bound {T : TD} (h : T.ok) {x : Stp} (hx : x.2.2 = T.gap ∨ ∃ s t, x.2.2 = T.d s t) : 0 ≤ x.2.2 ∧ x.2.2 ≤ 1073741824 * 24 := by
  rcases hx with e | ⟨s, t, e⟩ <;> rw [e]
  · have := h.gap; omega
  · exact distC_pos h.cost
/-- What is filled in: rows from i on, and the row before from j on. -/
def TD.F (T : TD) (i j : Nat) : Nat → Nat → Int := fun i' j' => if (i ≤ i' ∨ (i' + 1 = i ∧ j ≤ j')) ∧ i' ≤ T.A.w.length ∧ j' ≤ T.B.w.length then T.R i' j' else 0
theorem TD.F_start (T : TD) (j : Nat) (hj : T.B.w.length < j) : T.F (T.A.w.length + 1) j = fun _ _ => 0 := by
  funext i' j'
  unfold TD.F
  rw [if_neg (by omega)]
theorem TD.F_row (T : TD) (i j : Nat) (hj : T.B.w.length < j) : T.F (i + 1) 0 = T.F i j := by
  funext i' j'
  unfold TD.F
  by_cases h : (i + 1 ≤ i' ∨ (i' + 1 = i + 1 ∧ 0 ≤ j')) ∧ i' ≤ T.A.w.length ∧ j' ≤ T.B.w.length
  · rw [if_pos h, if_pos (by omega)]
  · rw [if_neg h, if_neg (by omega)]
theorem TD.F_next (T : TD) (r s : Nat) (hr : r ≤ T.A.w.length) (hs : s ≤ T.B.w.length) : upd2 (T.F (r + 1) (s + 1)) r s (T.R r s) = T.F (r + 1) s := by
  funext i' j'
  unfold upd2 TD.F
  by_cases h : i' = r ∧ j' = s
  · rw [if_pos h, if_pos (by omega), h.1, h.2]
  · rw [if_neg h]
    by_cases h2 : (r + 1 ≤ i' ∨ (i' + 1 = r + 1 ∧ s + 1 ≤ j')) ∧ i' ≤ T.A.w.length ∧ j' ≤ T.B.w.length
    · rw [if_pos h2, if_pos (by omega)]
    · rw [if_neg h2, if_neg (by omega)]
theorem TD.F_here (T : TD) (r s : Nat) : upd2 (T.F (r + 1) (s + 1)) r s 0 = T.F (r + 1) (s + 1) := by
  funext i' j'
  unfold upd2
  by_cases h : i' = r ∧ j' = s
  · rw [if_pos h, h.1, h.2]; unfold TD.F; rw [if_neg (by omega)]
  · rw [if_neg h]
theorem upd2_upd2 (f : Nat → Nat → Int) (r s : Nat) (v v' : Int) : upd2 (upd2 f r s v) r s v' = upd2 f r s v' := by
  funext i' j'
  unfold upd2
  split <;> rfl
end Go.Sy
namespace Go.Proofs.YtedfogpnmpmggaaDoor
open Go Go.Sy Go.RowKit
/-- How the world reads for the steps: what stands around, and the table's head. -/
def TD.S (T : TD) (c : Cx) : Mv := fun b o => if b = T.tb then T.hd[o]? else c.R b o
theorem TD.S_at {T : TD} {c : Cx} (hn : ¬ c.hb.own T.tb) (ha : WordAt c.R T.A.p T.A.w) (hb : WordAt c.R T.B.p T.B.w) (hc : CostsAt c.R T.pc T.ws) (ht : TabOk c.R) : TD.at T (TD.S T c) := by
  have hle : c.R.le (TD.S T c) := fun b o v h => by
    unfold TD.S
    rw [if_neg (fun e : b = T.tb => hn (e ▸ c.own b o v h))]; exact h
  exact ⟨fun i x hx => ⟨T.tb, 0, rfl, by unfold TD.S; rw [if_pos rfl, Nat.zero_add]; exact hx⟩, ha.mono hle, hb.mono hle, hc.mono hle, ht.mono hle⟩
theorem TD.S_le {T : TD} {c : Cx} {f : Nat → Nat → Int} {e : TypeId} {L : List Nat} {ρ : Env} {blks : List Blk} {m : Mem} {w : World} (hm : m T.tb = some (.cells (gcells T.hd .i64 f).toArray e (0, 0))) (hw : Wd L ρ blks (c.hw m) w) : (TD.S T c).le (Mv.of w) := fun b o v h => by
  unfold TD.S at h
  split at h
  · rename_i e'
    subst e'
    have hlt := (List.getElem?_eq_some_iff.1 h).1
    show w.cell? ⟨T.tb, o, none⟩ = _
    have := hw.hold.2 _ _ hm
    simp only [World.cell?, this]
    simp only [Option.isSome_none, Bool.false_eq_true, if_false, List.getElem?_toArray]
    rw [gcells_hd _ _ _ _ hlt]; exact h
  · exact c.ok w b o v hw.hold.1 h
theorem box_ne {m : Mem} {b tb : Nat} {e e' : TypeId} {v : Value} {hd : List Value} {k : IntKind} {f : Nat → Nat → Int} (h : m b = some (box e v)) (h' : m tb = some (.cells (gcells hd k f).toArray e' (0, 0))) : b ≠ tb := by
  rintro rfl
  rw [h] at h'
  simp only [box, Option.some.injEq, Obj.cells.injEq] at h'
  have := congrArg Array.size h'.1
  have h2 := gcells_len hd k f
  simp at this
  omega
set_option maxHeartbeats 1000000 in
theorem c_newTable (A B : WD) (pc : Option Addr) (cc : Nat) (ws : List Int) (gap : Int) (ha : Wok A.w) (hb : Wok B.w) :
    FnM Tryd.prog n_edit_newTable [A.v, B.v, costs pc ws.length cc gap] (fun R => WordAt R A.p A.w ∧ WordAt R B.p B.w ∧ CostsAt R pc ws ∧ TabOk R) fun v mq _ =>
      (checkE ws gap [A.w, B.w] ≠ 0 → v = .tuple #[.pointer none, .int .i64 (checkE ws gap [A.w, B.w])]) ∧
      (checkE ws gap [A.w, B.w] = 0 → ∃ tb, TD.ok ⟨tb, A, B, pc, cc, ws, gap⟩ ∧ v = .tuple #[.pointer (some ⟨tb, 0, none⟩), .int .i64 0] ∧ mq tb = some (.cells (gcells (TD.hd ⟨tb, A, B, pc, cc, ws, gap⟩) .i64 (TD.F ⟨tb, A, B, pc, cc, ws, gap⟩ 0 0)).toArray 79 (0, 0))) := by
  obtain ⟨pa, ca, a⟩ := A
  obtain ⟨pb, cb, b⟩ := B
  simp only [] at ha hb
  refine FnM.of S_edit_newTable mx [.p pa, .i a.length, .i ca, .p pb, .i b.length, .i cb, .p pc, .i ws.length, .i cc, .i gap] rfl rfl fun c hp => .alloc fun b0 => .alloc fun b1 => ?_
  obtain ⟨hp1, hp2, hp3, hp4⟩ := hp
  refine .callV (c_editCheck pc cc ws gap (some ⟨b1, 0, none⟩) 2 [⟨pa, ca, a⟩, ⟨pb, cb, b⟩] (by simp [ha, hb]) (by simp)) (fun g => ⟨hp3.mono g.R, fun i x hx => ⟨b1, 0, rfl, ?_⟩, ?_⟩) (.ite (fun h1 => .ret rfl ?_) (fun h1 => ?_))
  · rw [g.at (j := 1) rfl rfl, Nat.zero_add]; exact hx
  · simp only [List.mem_cons, List.not_mem_nil, or_false]
    rintro x (rfl | rfl)
    · exact hp1.mono g.R
    · exact hp2.mono g.R
  · ((try simp only [BT.eval, IT.eval, SV.den, SV.dens, Env.int, Env.bool, Env.val, Env.ptr, letsOf, letU, snd, List.flatMap_cons, List.flatMap_nil, List.cons_append, List.nil_append, List.append_assoc, List.getElem?_cons_zero, List.getElem?_cons_succ] at h1); (try simp only [cm, cond_true, cond_false, pick_or, pick_and, Bool.or_eq_true, Bool.and_eq_true, Bool.or_eq_false_iff, Bool.and_eq_false_iff, Bool.not_eq_true', Bool.not_eq_false', decide_eq_true_eq, decide_eq_false_iff_not, beq_iff_eq, beq_eq_false_iff_ne, bne_iff_ne, bne_eq_false_iff_eq, ge_iff_le, gt_iff_lt, Int.not_lt, Int.not_le] at h1))
    replace h1 : checkE ws gap [a, b] ≠ 0 := h1
    exact ⟨fun _ => by ((try simp only [BT.eval, IT.eval, SV.den, SV.dens, Env.int, Env.bool, Env.val, Env.ptr, letsOf, letU, snd, List.flatMap_cons, List.flatMap_nil, List.cons_append, List.nil_append, List.append_assoc, List.getElem?_cons_zero, List.getElem?_cons_succ]); (try simp only [cm, cond_true, cond_false, pick_or, pick_and, Bool.or_eq_true, Bool.and_eq_true, Bool.or_eq_false_iff, Bool.and_eq_false_iff, Bool.not_eq_true', Bool.not_eq_false', decide_eq_true_eq, decide_eq_false_iff_not, beq_iff_eq, beq_eq_false_iff_ne, bne_iff_ne, bne_eq_false_iff_eq, ge_iff_le, gt_iff_lt, Int.not_lt, Int.not_le])); rfl, fun h => absurd h h1⟩
  ((try simp only [BT.eval, IT.eval, SV.den, SV.dens, Env.int, Env.bool, Env.val, Env.ptr, letsOf, letU, snd, List.flatMap_cons, List.flatMap_nil, List.cons_append, List.nil_append, List.append_assoc, List.getElem?_cons_zero, List.getElem?_cons_succ] at h1); (try simp only [cm, cond_true, cond_false, pick_or, pick_and, Bool.or_eq_true, Bool.and_eq_true, Bool.or_eq_false_iff, Bool.and_eq_false_iff, Bool.not_eq_true', Bool.not_eq_false', decide_eq_true_eq, decide_eq_false_iff_not, beq_iff_eq, beq_eq_false_iff_ne, bne_iff_ne, bne_eq_false_iff_eq, ge_iff_le, gt_iff_lt, Int.not_lt, Int.not_le] at h1))
  replace h1 : checkE ws gap [a, b] = 0 := h1
  have hc1 : checkC ws gap = 0 ∧ checkL [a, b] = 0 := by
    unfold checkE at h1
    split at h1
    · omega
    · omega
  obtain ⟨la, va⟩ := checkW_zero (checkL_two hc1.2).1
  obtain ⟨lb, vb⟩ := checkW_zero (checkL_two hc1.2).2
  rw [show checkE ws gap (List.map (fun x : WD => x.w) [⟨pa, ca, a⟩, ⟨pb, cb, b⟩]) = 0 from h1]
  refine .env (by (try simp only [letsOf, letU, snd, List.flatMap_cons, List.flatMap_nil, List.cons_append, List.nil_append, List.append_assoc, List.append_nil]); rfl) (.allocc fun tb _ _ htb => ?_)
  let T : TD := ⟨tb, ⟨pa, ca, a⟩, ⟨pb, cb, b⟩, pc, cc, ws, gap⟩
  have hT : T.ok := ⟨ha, hb, la, lb, va, vb, hc1.1⟩
  have hS : TD.at T (TD.S T c) := TD.S_at htb hp1 hp2 hp3 hp4
  have hcells : (Mem.emp.upd tb (.cells (SV.dens [b0, b1] [.p pa, .i a.length, .i ca, .p pb, .i b.length, .i cb, .p pc, .i ws.length, .i cc, .i gap, .i 0] ([(.sl 0 (.lit 0) (.var 1) (.var 2)), (.sl 3 (.lit 0) (.var 4) (.var 5)), (.sl 6 (.lit 0) (.var 7) (.var 8)), (.int .i64 (.var 9))] ++ List.replicate 1089 (.int .i64 (.lit 0)))).toArray 79 (0, 0))) tb = some (.cells (gcells T.hd .i64 (T.F (a.length + 1) (b.length + 1))).toArray 79 (0, 0)) := by
    rw [Mem.upd_same, dens_append, dens_replicate, TD.F_start T (b.length + 1) (Nat.lt_succ_self _), gcells_zero]; rfl
  replace hcells : (Mem.emp.upd tb (.cells (SV.dens ([] ++ [b0] ++ [b1]) [.p pa, .i a.length, .i ca, .p pb, .i b.length, .i cb, .p pc, .i ws.length, .i cc, .i gap, .i 0] ([(.sl 0 (.lit 0) (.var 1) (.var 2)), (.sl 3 (.lit 0) (.var 4) (.var 5)), (.sl 6 (.lit 0) (.var 7) (.var 8)), (.int .i64 (.var 9))] ++ List.replicate 1089 (.int .i64 (.lit 0)))).toArray 79 (0, 0))) tb = _ := hcells
  generalize Mem.emp.upd tb _ = m0 at hcells ⊢
  refine .alloc fun b2 => .chk (by ((try simp only [BT.eval, IT.eval, SV.den, SV.dens, Env.int, Env.bool, Env.val, Env.ptr, letsOf, letU, snd, List.flatMap_cons, List.flatMap_nil, List.cons_append, List.nil_append, List.append_assoc, List.getElem?_cons_zero, List.getElem?_cons_succ]); (try simp only [cm, cond_true, cond_false, pick_or, pick_and, Bool.or_eq_true, Bool.and_eq_true, Bool.or_eq_false_iff, Bool.and_eq_false_iff, Bool.not_eq_true', Bool.not_eq_false', decide_eq_true_eq, decide_eq_false_iff_not, beq_iff_eq, beq_eq_false_iff_ne, bne_iff_ne, bne_eq_false_iff_eq, ge_iff_le, gt_iff_lt, Int.not_lt, Int.not_le])); omega) (.alloc fun b3 => ?_)
  refine .env (by (try simp only [letsOf, letU, snd, List.flatMap_cons, List.flatMap_nil, List.cons_append, List.nil_append, List.append_assoc, List.append_nil]); rfl) (.loop (fun n us m => ∃ (i bi : Nat) (x : Int), us = [.p (some ⟨bi, 0, none⟩), .i x] ∧ i = n ∧ i ≤ a.length + 1 ∧ m tb = some (.cells (gcells T.hd .i64 (T.F i (b.length + 1))).toArray 79 (0, 0)) ∧ ((bi = b3 ∧ x = (i : Int) - 1) ∨ m bi = some (box 3 (.int .i64 ((i : Int) - 1))))) (a.length + 1)
    ⟨a.length + 1, b3, _, rfl, rfl, Nat.le_refl _, hcells, .inl ⟨rfl, by simp [IT.eval, Env.int]⟩⟩ ?_)
  clear hcells
  rintro n _ m _ ⟨i, bi, x, rfl, rfl, hia, hm, hbi⟩
  refine .loadV (.int .i64 ((i : Int) - 1)) bi 3 3 rfl (hbi.imp (fun ⟨e1, e2⟩ => ⟨_, by rw [e1]; rfl, rfl, by rw [← e2]; rfl⟩) id) (.ite (fun h2 => ?_) (fun h2 => ?_)) <;> ((try simp only [BT.eval, IT.eval, SV.den, SV.dens, Env.int, Env.bool, Env.val, Env.ptr, letsOf, letU, snd, List.flatMap_cons, List.flatMap_nil, List.cons_append, List.nil_append, List.append_assoc, List.getElem?_cons_zero, List.getElem?_cons_succ] at h2); (try simp only [cm, cond_true, cond_false, pick_or, pick_and, Bool.or_eq_true, Bool.and_eq_true, Bool.or_eq_false_iff, Bool.and_eq_false_iff, Bool.not_eq_true', Bool.not_eq_false', decide_eq_true_eq, decide_eq_false_iff_not, beq_iff_eq, beq_eq_false_iff_ne, bne_iff_ne, bne_eq_false_iff_eq, ge_iff_le, gt_iff_lt, Int.not_lt, Int.not_le] at h2))
  · obtain ⟨r, rfl⟩ : ∃ r, i = r + 1 := ⟨i - 1, by omega⟩
    rw [show ((r + 1 : Nat) : Int) - 1 = (r : Int) by omega] at *
    refine .chk (by ((try simp only [BT.eval, IT.eval, SV.den, SV.dens, Env.int, Env.bool, Env.val, Env.ptr, letsOf, letU, snd, List.flatMap_cons, List.flatMap_nil, List.cons_append, List.nil_append, List.append_assoc, List.getElem?_cons_zero, List.getElem?_cons_succ]); (try simp only [cm, cond_true, cond_false, pick_or, pick_and, Bool.or_eq_true, Bool.and_eq_true, Bool.or_eq_false_iff, Bool.and_eq_false_iff, Bool.not_eq_true', Bool.not_eq_false', decide_eq_true_eq, decide_eq_false_iff_not, beq_iff_eq, beq_eq_false_iff_ne, bne_iff_ne, bne_eq_false_iff_eq, ge_iff_le, gt_iff_lt, Int.not_lt, Int.not_le])); omega) (.alloc fun b4 => .env (by (try simp only [letsOf, letU, snd, List.flatMap_cons, List.flatMap_nil, List.cons_append, List.nil_append, List.append_assoc, List.append_nil]); rfl) (.loop (fun n us m => ∃ (j bj : Nat) (y : Int), us = [.p (some ⟨bj, 0, none⟩), .i y] ∧ j = n ∧ j ≤ b.length + 1 ∧ m tb = some (.cells (gcells T.hd .i64 (T.F (r + 1) j)).toArray 79 (0, 0)) ∧ ((bi = b3 ∧ x = (r : Int)) ∨ m bi = some (box 3 (.int .i64 (r : Int)))) ∧ ((bj = b4 ∧ y = (j : Int) - 1) ∨ m bj = some (box 3 (.int .i64 ((j : Int) - 1))))) (b.length + 1)
      ⟨b.length + 1, b4, _, rfl, rfl, Nat.le_refl _, hm, hbi, .inl ⟨rfl, by simp [IT.eval, Env.int]⟩⟩ ?_))
    clear hbi hm
    rintro n _ m _ ⟨j, bj, y, rfl, rfl, hjb, hm, hbi, hbj⟩
    refine .loadV (.int .i64 ((j : Int) - 1)) bj 3 4 rfl (hbj.imp (fun ⟨e1, e2⟩ => ⟨_, by rw [e1]; rfl, rfl, by rw [← e2]; rfl⟩) id) (.ite (fun h3 => ?_) (fun h3 => ?_)) <;> ((try simp only [BT.eval, IT.eval, SV.den, SV.dens, Env.int, Env.bool, Env.val, Env.ptr, letsOf, letU, snd, List.flatMap_cons, List.flatMap_nil, List.cons_append, List.nil_append, List.append_assoc, List.getElem?_cons_zero, List.getElem?_cons_succ] at h3); (try simp only [cm, cond_true, cond_false, pick_or, pick_and, Bool.or_eq_true, Bool.and_eq_true, Bool.or_eq_false_iff, Bool.and_eq_false_iff, Bool.not_eq_true', Bool.not_eq_false', decide_eq_true_eq, decide_eq_false_iff_not, beq_iff_eq, beq_eq_false_iff_ne, bne_iff_ne, bne_eq_false_iff_eq, ge_iff_le, gt_iff_lt, Int.not_lt, Int.not_le] at h3))
    · obtain ⟨s, rfl⟩ : ∃ s, j = s + 1 := ⟨j - 1, by omega⟩
      rw [show ((s + 1 : Nat) : Int) - 1 = (s : Int) by omega] at *
      have hr : r ≤ a.length := by omega
      have hs : s ≤ b.length := by omega
      refine .alloc fun b5 => .loadV (.int .i64 (r : Int)) bi 3 3 rfl (hbi.imp (fun ⟨e1, e2⟩ => ⟨_, by rw [e1]; rfl, rfl, by rw [← e2]; rfl⟩) id) (.loadV (.int .i64 (s : Int)) bj 3 4 rfl (hbj.imp (fun ⟨e1, e2⟩ => ⟨_, by rw [e1]; rfl, rfl, by rw [← e2]; rfl⟩) id) ?_)
      refine .env (by (try simp only [letsOf, letU, snd, List.flatMap_cons, List.flatMap_nil, List.cons_append, List.nil_append, List.append_assoc, List.append_nil]); rfl) (.callM (c_steps tb r s) rfl rfl (fun _ => trivial) ?_)
      rintro v mq hfr ⟨c0, c1, c2, rfl, rfl, h01, h02, h12⟩
      refine ⟨[.v _], ⟨_, rfl, rfl⟩, rfl, ?_⟩
      let vals : List Int := (T.steps r s).map fun x => x.2.2 + T.R x.1 x.2.1
      have hvals : minL vals = T.R r s := (RA_steps T.d T.gap a b r s).symm
      refine .range n___edit_table__steps_1 _ ((T.steps r s).map stepU) (fun w => (TD.S T c).le (Mv.of w)) (box3 c0 c1 c2 tb r s) m
        (fun k us m' => us = [.b (k == 0)] ∧ m' tb = some (.cells (gcells T.hd .i64 (upd2 (T.F (r + 1) (s + 1)) r s (minL (vals.take k)))).toArray 79 (0, 0)) ∧ ((bi = b3 ∧ x = (r : Int)) ∨ m' bi = some (box 3 (.int .i64 (r : Int)))) ∧ ((bj = b4 ∧ y = (s : Int)) ∨ m' bj = some (box 3 (.int .i64 (s : Int))))) (fun _ _ _ => False)
        rfl (by kernel_rfl) rfl ?_ ?_ ?_ ?_ ?_ ?_ ?_ (fun _ _ _ _ _ hE => hE.elim)
      · intro k hk
        cases hq : box3 c0 c1 c2 tb r s k with
        | none => rfl
        | some o => exact absurd (hfr k (by rw [hq]; simp)).1 hk
      · intro ux hx
        obtain ⟨z, _, rfl⟩ := List.mem_map.1 hx; rfl
      · have := it_steps T hT r s hr hs c0 c1 c2 h01 h02 h12 (TD.S T c) hS
        rw [List.map_map]
        exact this
      · refine ⟨rfl, ?_, hbi, hbj⟩
        show m tb = some (.cells (gcells T.hd .i64 (upd2 (T.F (r + 1) (s + 1)) r s 0)).toArray 79 (0, 0))
        rw [TD.F_here]; exact hm
      · rintro k us m' w ⟨_, hm', _⟩ hw
        exact TD.S_le hm' hw
      · rintro k us ux m' _ hx ⟨rfl, hm', hbi', hbj'⟩
        rw [List.getElem?_map, Option.map_eq_some_iff] at hx
        obtain ⟨z, hz, rfl⟩ := hx
        obtain ⟨hk, hze⟩ := List.getElem?_eq_some_iff.1 hz
        obtain ⟨z1, z2, z3, z4, _⟩ := T.steps_le hr hs (List.mem_of_getElem? hz)
        have zc := hT.cost_bound z4
        have zr := hT.R_bound z.1 z.2.1
        have hread : upd2 (T.F (r + 1) (s + 1)) r s (minL (vals.take k)) z.1 z.2.1 = T.R z.1 z.2.1 := by
          unfold upd2 TD.F
          have q1 : z.1 ≤ a.length := z1
          have q2 : z.2.1 ≤ b.length := z2
          rw [if_neg (by omega), if_pos ⟨by omega, z1, z2⟩]
        have hcell : ∀ {L : List Nat} {ρ : Env} {blks : List Blk} {m' : Mem} {f : Nat → Nat → Int}, m' tb = some (.cells (gcells T.hd .i64 f).toArray 79 (0, 0)) → Good c L m' → Cells (vw c L ρ blks m') (some ⟨tb, 0, none⟩) (gcells T.hd .i64 f) := fun hm g k x hx => ⟨tb, 0, rfl, by rw [vw_mem g hm, Nat.zero_add]; simpa using hx⟩
        have hvk : vals[k]? = some (z.2.2 + T.R z.1 z.2.1) := by
          show ((T.steps r s).map fun x => x.2.2 + T.R x.1 x.2.1)[k]? = _
          rw [List.getElem?_map, hz]; rfl
        have hvl : k < vals.length := (List.getElem?_eq_some_iff.1 hvk).1
        have hvs : vals.take (k + 1) = vals.take k ++ [z.2.2 + T.R z.1 z.2.1] := by
          rw [List.take_succ_eq_append_getElem hvl, (List.getElem?_eq_some_iff.1 hvk).2]
        have eadd : ar .add .i64 z.2.2 (T.R z.1 z.2.1) = z.2.2 + T.R z.1 z.2.1 := addI (by omega) (by omega)
        refine .alloc fun b6 => .chk rfl (.chk rfl (.loadG tb T.hd _ z.1 z.2.1 rfl (Nat.lt_succ_of_le (Nat.le_trans z1 hT.la)) (Nat.lt_succ_of_le (Nat.le_trans z2 hT.lb)) rfl (fun g => hcell hm' g) ?_))
        rw [hread]
        have nextbi : ∀ o, ((bi = b3 ∧ x = (r : Int)) ∨ (m'.upd tb o) bi = some (box 3 (.int .i64 (r : Int)))) := fun o => hbi'.imp id fun h => by rw [Mem.upd_other _ _ (box_ne h hm')]; exact h
        have nextbj : ∀ o, ((bj = b4 ∧ y = (s : Int)) ∨ (m'.upd tb o) bj = some (box 3 (.int .i64 (s : Int)))) := fun o => hbj'.imp id fun h => by rw [Mem.upd_other _ _ (box_ne h hm')]; exact h
        refine .env (by (try simp only [letsOf, letU, snd, List.flatMap_cons, List.flatMap_nil, List.cons_append, List.nil_append, List.append_assoc, List.append_nil]); rfl) (.ite (fun h4 => ?_) (fun h4 => ?_)) <;> ((try simp only [BT.eval, IT.eval, SV.den, SV.dens, Env.int, Env.bool, Env.val, Env.ptr, letsOf, letU, snd, List.flatMap_cons, List.flatMap_nil, List.cons_append, List.nil_append, List.append_assoc, List.getElem?_cons_zero, List.getElem?_cons_succ] at h4); (try simp only [cm, cond_true, cond_false, pick_or, pick_and, Bool.or_eq_true, Bool.and_eq_true, Bool.or_eq_false_iff, Bool.and_eq_false_iff, Bool.not_eq_true', Bool.not_eq_false', decide_eq_true_eq, decide_eq_false_iff_not, beq_iff_eq, beq_eq_false_iff_ne, bne_iff_ne, bne_eq_false_iff_eq, ge_iff_le, gt_iff_lt, Int.not_lt, Int.not_le] at h4))
        · have hk0 : k = 0 := by simpa using h4
          subst hk0
          refine .loadV (.int .i64 (r : Int)) bi 3 3 rfl (hbi'.imp (fun ⟨e1, e2⟩ => ⟨_, by rw [e1]; rfl, rfl, by rw [← e2]; rfl⟩) id) (.loadV (.int .i64 (s : Int)) bj 3 4 rfl (hbj'.imp (fun ⟨e1, e2⟩ => ⟨_, by rw [e1]; rfl, rfl, by rw [← e2]; rfl⟩) id) (.chk rfl (.chk rfl ?_)))
          refine .storeG tb 79 T.hd _ r s (minL (vals.take (0 + 1))) rfl (by omega) (by omega) rfl hm' ?_ (.leave (.inl ⟨rfl, rfl, ?_, nextbi _, nextbj _⟩))
          · rw [hvs]; exact eadd
          · rw [Mem.upd_same, upd2_upd2]
        · have hk0 : k ≠ 0 := by simpa using h4
          refine .loadV (.int .i64 (r : Int)) bi 3 3 rfl (hbi'.imp (fun ⟨e1, e2⟩ => ⟨_, by rw [e1]; rfl, rfl, by rw [← e2]; rfl⟩) id) (.loadV (.int .i64 (s : Int)) bj 3 4 rfl (hbj'.imp (fun ⟨e1, e2⟩ => ⟨_, by rw [e1]; rfl, rfl, by rw [← e2]; rfl⟩) id) (.chk rfl (.chk rfl ?_)))
          refine .loadG tb T.hd _ r s rfl (by omega) (by omega) rfl (fun g => hcell hm' g) ?_
          rw [show upd2 (T.F (r + 1) (s + 1)) r s (minL (vals.take k)) r s = minL (vals.take k) from if_pos ⟨rfl, rfl⟩]
          have hne : vals.take k ≠ [] := fun e => by
            have := congrArg List.length e
            rw [List.length_take, List.length_nil] at this
            omega
          have hmin := minL_snoc (x := z.2.2 + T.R z.1 z.2.1) hne
          rw [← hvs] at hmin
          have hb0 : ((k == 0) : Bool) = ((k + 1 == 0) : Bool) := by simp [hk0]
          refine .env (by (try simp only [letsOf, letU, snd, List.flatMap_cons, List.flatMap_nil, List.cons_append, List.nil_append, List.append_assoc, List.append_nil]); rfl) (.ite (fun h5 => ?_) (fun h5 => .leave (.inl ⟨rfl, ?_, ?_, hbi', hbj'⟩)))
          · replace h5 : decide (ar .add .i64 z.2.2 (T.R z.1 z.2.1) < minL (vals.take k)) = true := h5
            rw [eadd, decide_eq_true_eq] at h5
            refine .loadV (.int .i64 (r : Int)) bi 3 3 rfl (hbi'.imp (fun ⟨e1, e2⟩ => ⟨_, by rw [e1]; rfl, rfl, by rw [← e2]; rfl⟩) id) (.loadV (.int .i64 (s : Int)) bj 3 4 rfl (hbj'.imp (fun ⟨e1, e2⟩ => ⟨_, by rw [e1]; rfl, rfl, by rw [← e2]; rfl⟩) id) (.chk rfl (.chk rfl ?_)))
            refine .storeG tb 79 T.hd _ r s (minL (vals.take (k + 1))) rfl (by omega) (by omega) rfl hm' ?_ (.leave (.inl ⟨rfl, ?_, ?_, nextbi _, nextbj _⟩))
            · show ar .add .i64 z.2.2 (T.R z.1 z.2.1) = _
              rw [hmin, eadd]; omega
            · (simp only [letsOf, letU, snd, List.flatMap_cons, List.flatMap_nil, Sh.uss, Sh.us, IT.eval, BT.eval, SV.den, SV.dens, Env.int, Env.bool, Env.val, Env.ptr, atAddr, map_add0, List.append_assoc, List.cons_append, List.nil_append, List.append_nil, List.getElem?_cons_zero, List.getElem?_cons_succ]); simp
            · rw [Mem.upd_same, upd2_upd2]
          · show [U.b (k == 0)] = _
            rw [hb0]
          · replace h5 : decide (ar .add .i64 z.2.2 (T.R z.1 z.2.1) < minL (vals.take k)) = false := h5
            rw [eadd, decide_eq_false_iff_not] at h5
            rw [hmin, show min (minL (vals.take k)) (z.2.2 + T.R z.1 z.2.1) = minL (vals.take k) by omega]
            exact hm'
      · rintro us m' _ ⟨rfl, hm', hbi', hbj'⟩
        have hfull : vals.take ((T.steps r s).map stepU).length = vals := by
          rw [List.take_of_length_le (by simp [vals])]
        rw [hfull, hvals, TD.F_next T r s hr hs] at hm'
        refine .loadV (.int .i64 (s : Int)) bj 3 4 rfl (hbj'.imp (fun ⟨e1, e2⟩ => ⟨_, by rw [e1]; rfl, rfl, by rw [← e2]; rfl⟩) id) (.alloc fun b6 => .againL rfl fun g => ⟨s, by omega, s, b6, y, ?_, rfl, by omega, ?_, ?_, ?_⟩)
        · (simp only [letsOf, letU, snd, List.flatMap_cons, List.flatMap_nil, Sh.uss, Sh.us, IT.eval, BT.eval, SV.den, SV.dens, Env.int, Env.bool, Env.val, Env.ptr, atAddr, map_add0, List.append_assoc, List.cons_append, List.nil_append, List.append_nil, List.getElem?_cons_zero, List.getElem?_cons_succ]); rfl
        · rw [blkMem_not fun h => by rw [(g.blk tb (List.drop_subset _ _ h)).1] at hm'; cases hm']
          exact hm'
        · refine hbi'.imp id fun h => ?_
          rw [blkMem_not fun h2 => by rw [(g.blk bi (List.drop_subset _ _ h2)).1] at h; cases h]
          exact h
        · refine .inr ?_
          have hnd := g.nd
          rw [blkMem_at (j := 1) (b := b6) (List.Nodup.sublist (List.drop_sublist _ _) g.nd) rfl rfl]
          simp only [SV.dens, SV.den, IT.eval, box]
          have : ar .sub .i64 (s : Int) 1 = (s : Int) - 1 := subI (by omega) (by omega)
          simp only [Env.int]
          first | (rw [← this]; rfl) | skip
    · have hj0 : j = 0 := by omega
      subst hj0
      refine .loadV (.int .i64 (r : Int)) bi 3 3 rfl (hbi.imp (fun ⟨e1, e2⟩ => ⟨_, by rw [e1]; rfl, rfl, by rw [← e2]; rfl⟩) id) (.alloc fun b5 => .againL rfl fun g => ⟨r, by omega, r, b5, x, ?_, rfl, by omega, ?_, ?_⟩)
      · (simp only [letsOf, letU, snd, List.flatMap_cons, List.flatMap_nil, Sh.uss, Sh.us, IT.eval, BT.eval, SV.den, SV.dens, Env.int, Env.bool, Env.val, Env.ptr, atAddr, map_add0, List.append_assoc, List.cons_append, List.nil_append, List.append_nil, List.getElem?_cons_zero, List.getElem?_cons_succ]); rfl
      · rw [TD.F_row T r (b.length + 1) (Nat.lt_succ_self _)] at hm
        rw [blkMem_not fun h => by rw [(g.blk tb (List.drop_subset _ _ h)).1] at hm; cases hm]
        exact hm
      · refine .inr ?_
        rw [blkMem_at (j := 1) (b := b5) (List.Nodup.sublist (List.drop_sublist _ _) g.nd) rfl rfl]
        simp only [SV.dens, SV.den, IT.eval, box]
        have : ar .sub .i64 (r : Int) 1 = (r : Int) - 1 := subI (by omega) (by omega)
        simp only [Env.int]
        first | (rw [← this]; rfl) | skip
  · have hi0 : i = 0 := by omega
    subst hi0
    refine .ret rfl ⟨fun h => absurd h1 h, fun _ => ⟨tb, hT, rfl, ?_⟩⟩
    rw [hm]
    have : T.F 0 (b.length + 1) = T.F 0 0 := by
      funext i' j'
      unfold TD.F
      by_cases h : (0 ≤ i' ∨ (i' + 1 = 0 ∧ b.length + 1 ≤ j')) ∧ i' ≤ T.A.w.length ∧ j' ≤ T.B.w.length
      · rw [if_pos h, if_pos (by omega)]
      · rw [if_neg h, if_neg (by omega)]
    rw [this]
end Go.Proofs.YtedfogpnmpmggaaDoor
