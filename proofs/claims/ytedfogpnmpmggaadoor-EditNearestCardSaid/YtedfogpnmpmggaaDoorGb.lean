/- The steps of alignments, as edit goes over them. -/
import Derived.Test.YtedfogpnmpmggaaDoorFw
import Derived.Test.YtedfogpnmpmggaaDoorPj
set_option linter.unusedSimpArgs false
set_option linter.unusedVariables false
namespace Go.Sy
open Go Go.RowKit
section
variable {P : Program} {c : Cx} {L : List Nat} {ρ : Env} {blks : List Blk} {m : Mem} {R : Value → HW → Prop} {Dn : Nat → List U → HW → Prop} {A : List (List U → HW → Prop)}
theorem DenM.loadB {i : Nat} {s : Sh} {k : Tree} (v : Value) (b : Nat) (e : TypeId) (hp : ρ.ptr i = some ⟨b, 0, none⟩) (hm : m b = some (box e v)) (hk : DenM P R Dn k L (ρ ++ letU v) c m A)
    (hus : Sh.eats [s] (letU v) = some [] := by rfl) (hv : SV.dens L (ρ ++ letU v) (Sh.freshs [s] ρ.length).1 = [v] := by rfl) : DenM P R Dn (.load i (.lit 0) [s] blks k) L ρ c m A :=
  .load1 v (some ⟨b, 0, none⟩) [v] 0 hp rfl (fun g i x hx => ⟨b, 0, rfl, by rw [vw_mem g hm, Nat.zero_add]; simpa using hx⟩) rfl hk hus hv
/-- A slice's value at a known place. -/
theorem DenM.loadS {i : Nat} {off : IT} {k : Tree} (xs : List Value) (j : Nat) (q : Option Addr) (kn cap : Nat) (ho : off.eval ρ = (j : Int)) (hx : xs[j]? = some (slv q kn cap)) (hw : Good c L m → Cells (vw c L ρ blks m) (ρ.ptr i) xs) (hk : DenM P R Dn k L (ρ ++ [.p q, .i kn, .i cap]) c m A) :
    DenM P R Dn (.load i off [.sl] blks k) L ρ c m A := by
  refine .loadC [.p q, .i kn, .i cap] (ρ.ptr i) xs j rfl ho rfl hw (List.getElem?_eq_some_iff.1 hx).1 (fun q' v hv => ?_) hk
  match q', hv with
  | 0, hv =>
    simp only [Sh.freshs, SV.dens] at hv
    rw [slv_fresh] at hv
    simp only [List.getElem?_cons_zero, Option.some.injEq] at hv
    rw [← hv]; exact hx
  | q' + 1, hv => simp [Sh.freshs, SV.dens] at hv
/-- Costs at a known place. -/
theorem DenM.loadCost {i : Nat} {off : IT} {k : Tree} (xs : List Value) (j : Nat) (q : Option Addr) (kn cap : Nat) (gap : Int) (ho : off.eval ρ = (j : Int)) (hx : xs[j]? = some (slv q kn cap)) (hx' : xs[j + 1]? = some (.int .i64 gap)) (hw : Good c L m → Cells (vw c L ρ blks m) (ρ.ptr i) xs) (hk : DenM P R Dn k L (ρ ++ [.p q, .i kn, .i cap, .i gap]) c m A) :
    DenM P R Dn (.load i off [.sl, .int .i64] blks k) L ρ c m A := by
  refine .loadC [.p q, .i kn, .i cap, .i gap] (ρ.ptr i) xs j rfl ho rfl hw (List.getElem?_eq_some_iff.1 hx).1 (fun q' v hv => ?_) hk
  have h1 : (Sh.sl.fresh ρ.length).1.den L (ρ ++ [.p q, .i kn, .i cap, .i gap]) = slv q kn cap := by
    simp only [Sh.fresh, SV.den, IT.eval, atAddr, slv]
    have e0 := getElem_env ρ [.p q, .i kn, .i cap, .i gap] 0
    have e1 := getElem_env ρ [.p q, .i kn, .i cap, .i gap] 1
    have e2 := getElem_env ρ [.p q, .i kn, .i cap, .i gap] 2
    simp only [Env.ptr, Env.int, Nat.add_zero] at *
    rw [e0, e1, e2]
    cases q <;> simp [addr_zero]
  have h2 : (ρ ++ [.p q, .i kn, .i cap, .i gap])[ρ.length + 3]? = some (U.i gap) := getElem_env ρ _ 3
  match q', hv with
  | 0, hv =>
    simp only [Sh.freshs, SV.dens] at hv
    rw [h1] at hv
    simp only [List.getElem?_cons_zero, Option.some.injEq] at hv
    rw [← hv]; exact hx
  | 1, hv =>
    simp only [Sh.freshs, Sh.fresh, SV.dens, SV.den, IT.eval, Env.int, List.getElem?_cons_succ, List.getElem?_cons_zero, Option.some.injEq] at hv
    rw [h2] at hv
    rw [← hv]; exact hx'
  | q' + 2, hv => simp [Sh.freshs, SV.dens] at hv
end
/-- What a table of edit is made for. -/
structure TD where
  tb : Nat
  A : WD
  B : WD
  pc : Option Addr
  cc : Nat
  ws : List Int
  gap : Int
def TD.d (T : TD) : Snd → Snd → Int := fun x y => (distC x y T.ws T.gap).1
def TD.hd (T : TD) : List Value := [T.A.v, T.B.v, slv T.pc T.ws.length T.cc, .int .i64 T.gap]
structure TD.ok (T : TD) : Prop where
  a : Wok T.A.w
  b : Wok T.B.w
  la : T.A.w.length ≤ 32
  lb : T.B.w.length ≤ 32
  va : ∀ s ∈ T.A.w, valid s = true
  vb : ∀ s ∈ T.B.w, valid s = true
  cost : checkC T.ws T.gap = 0
def TD.R (T : TD) (i j : Nat) : Int := RA T.d T.gap T.A.w T.B.w i j
def TD.steps (T : TD) (i j : Nat) : List Stp := stepsA T.d T.gap T.A.w T.B.w i j
theorem distC_pos {x y : Snd} {ws : List Int} {gap : Int} (hc : checkC ws gap = 0) : 0 ≤ (distC x y ws gap).1 ∧ (distC x y ws gap).1 ≤ 1073741824 * 24 := by
  obtain ⟨h1, _, _, h4⟩ := checkC_zero hc
  unfold distC
  split
  · simp
  · rw [if_neg (by simp [hc])]
    have := sumW_bound (diffS x y) ws h4
    simp only
    omega
theorem TD.ok.gap {T : TD} (h : T.ok) : 0 ≤ T.gap ∧ T.gap ≤ 1073741824 := ⟨(checkC_zero h.cost).2.1, (checkC_zero h.cost).2.2.1⟩
theorem TD.ok.R_bound {T : TD} (h : T.ok) (i j : Nat) : 0 ≤ T.R i j ∧ T.R i j ≤ 1073741824 * 64 := by
  have hg := h.gap
  refine ⟨rst_pos hg.1 (fun x y => (distC_pos h.cost).1) _ _, ?_⟩
  have h1 := rst_le (d := T.d) (g := T.gap) (T.A.w.drop i) (T.B.w.drop j)
  have h2 : T.gap * (((T.A.w.drop i).length + (T.B.w.drop j).length : Nat) : Int) ≤ 1073741824 * 64 := by
    refine Int.le_trans (Int.mul_le_mul_of_nonneg_right hg.2 (by omega)) ?_
    have := h.la; have := h.lb
    simp; omega
  exact Int.le_trans h1 h2
end Go.Sy
namespace Go.Proofs.YtedfogpnmpmggaaDoor
open Go Go.Sy Go.RowKit
def TD.at (T : TD) (V : Mv) : Prop := Cells V (some ⟨T.tb, 0, none⟩) T.hd ∧ WordAt V T.A.p T.A.w ∧ WordAt V T.B.p T.B.w ∧ CostsAt V T.pc T.ws ∧ TabOk V
theorem TD.at.mono {T : TD} {V V' : Mv} (h : TD.at T V) (hle : V.le V') : TD.at T V' := ⟨h.1.mono hle, h.2.1.mono hle, h.2.2.1.mono hle, h.2.2.2.1.mono hle, h.2.2.2.2.mono hle⟩
/-- The variables that the two iterators hold. -/
def box3 (b0 b1 b2 : Nat) (tb : Nat) (i j : Int) : Mem := ((Mem.emp.upd b2 (box 3 (.int .i64 j))).upd b1 (box 3 (.int .i64 i))).upd b0 (box 73 (.pointer (some ⟨tb, 0, none⟩)))
theorem box3_0 {b0 b1 b2 tb : Nat} {i j : Int} : box3 b0 b1 b2 tb i j b0 = some (box 73 (.pointer (some ⟨tb, 0, none⟩))) := Mem.upd_same ..
theorem box3_1 {b0 b1 b2 tb : Nat} {i j : Int} (h : b0 ≠ b1) : box3 b0 b1 b2 tb i j b1 = some (box 3 (.int .i64 i)) := by unfold box3; rw [Mem.upd_other _ _ (Ne.symm h), Mem.upd_same]
theorem box3_2 {b0 b1 b2 tb : Nat} {i j : Int} (h : b0 ≠ b2) (h' : b1 ≠ b2) : box3 b0 b1 b2 tb i j b2 = some (box 3 (.int .i64 j)) := by unfold box3; rw [Mem.upd_other _ _ (Ne.symm h), Mem.upd_other _ _ (Ne.symm h'), Mem.upd_same]
theorem c_steps (tb : Nat) (i j : Int) : FnM Tryd.prog n___edit_table__steps [.pointer (some ⟨tb, 0, none⟩), .int .i64 i, .int .i64 j] (fun _ => True) fun v mq _ => ∃ b0 b1 b2, v = .func (.func n___edit_table__steps_1) #[] #[.pointer (some ⟨b1, 0, none⟩), .pointer (some ⟨b0, 0, none⟩), .pointer (some ⟨b2, 0, none⟩)] ∧ mq = box3 b0 b1 b2 tb i j ∧ b0 ≠ b1 ∧ b0 ≠ b2 ∧ b1 ≠ b2 :=
  FnM.of S___edit_table__steps mx [.p (some ⟨tb, 0, none⟩), .i i, .i j] rfl rfl fun c _ => .alloc fun b0 => .alloc fun b1 => .alloc fun b2 => .retL rfl fun g => ⟨b0, b1, b2, rfl, rfl, by
    have := g.nd
    simp at this
    omega⟩
theorem c_cheapest (tb : Nat) (i j : Int) : FnM Tryd.prog n___edit_table__cheapest [.pointer (some ⟨tb, 0, none⟩), .int .i64 i, .int .i64 j] (fun _ => True) fun v mq _ => ∃ b0 b1 b2, v = .func (.func n___edit_table__cheapest_1) #[] #[.pointer (some ⟨b0, 0, none⟩), .pointer (some ⟨b1, 0, none⟩), .pointer (some ⟨b2, 0, none⟩)] ∧ mq = box3 b0 b1 b2 tb i j ∧ b0 ≠ b1 ∧ b0 ≠ b2 ∧ b1 ≠ b2 :=
  FnM.of S___edit_table__cheapest mx [.p (some ⟨tb, 0, none⟩), .i i, .i j] rfl rfl fun c _ => .alloc fun b0 => .alloc fun b1 => .alloc fun b2 => .retL rfl fun g => ⟨b0, b1, b2, rfl, rfl, by
    have := g.nd
    simp at this
    omega⟩
def stepU (x : Stp) : List U := [.i (x.1 : Int), .i (x.2.1 : Int), .i x.2.2]
def stepV (x : Stp) : Value := .agg #[.int .i64 (x.1 : Int), .int .i64 (x.2.1 : Int), .int .i64 x.2.2]
def st1 (T : TD) (i j : Nat) : List Stp := if h : i < T.A.w.length ∧ j < T.B.w.length then [(i + 1, j + 1, T.d T.A.w[i] T.B.w[j])] else []
def st2 (T : TD) (i j : Nat) : List Stp := if i < T.A.w.length then [(i + 1, j, T.gap)] else []
def st3 (T : TD) (i j : Nat) : List Stp := if j < T.B.w.length then [(i, j + 1, T.gap)] else []
theorem steps_parts (T : TD) (i j : Nat) : T.steps i j = st1 T i j ++ (st2 T i j ++ st3 T i j) := by
  unfold TD.steps stepsA st1 st2 st3
  rcases Nat.lt_or_ge i T.A.w.length with hi | hi <;> rcases Nat.lt_or_ge j T.B.w.length with hj | hj
  · rw [List.getElem?_eq_getElem hi, List.getElem?_eq_getElem hj, dif_pos ⟨hi, hj⟩, if_pos hi, if_pos hj]; rfl
  · rw [List.getElem?_eq_getElem hi, List.getElem?_eq_none hj, dif_neg (by omega), if_pos hi, if_neg (by omega)]; rfl
  · rw [List.getElem?_eq_none hi, List.getElem?_eq_getElem hj, dif_neg (by omega), if_neg (by omega), if_pos hj]; rfl
  · rw [List.getElem?_eq_none hi, List.getElem?_eq_none hj, dif_neg (by omega), if_neg (by omega), if_neg (by omega)]; rfl
theorem it_steps (T : TD) (hT : T.ok) (i j : Nat) (hi : i ≤ T.A.w.length) (hj : j ≤ T.B.w.length) (b0 b1 b2 : Nat) (h01 : b0 ≠ b1) (h02 : b0 ≠ b2) (h12 : b1 ≠ b2) (S : Mv) (hS : TD.at T S) :
    Iter Tryd.prog n___edit_table__steps_1 #[.pointer (some ⟨b1, 0, none⟩), .pointer (some ⟨b0, 0, none⟩), .pointer (some ⟨b2, 0, none⟩)] (fun w => S.le (Mv.of w)) (HW.mem (box3 b0 b1 b2 T.tb i j)) ((T.steps i j).map fun x => [stepV x]) := by
  refine Iter.of S___edit_table__steps_1 mx [.p (some ⟨b1, 0, none⟩), .p (some ⟨b0, 0, none⟩), .p (some ⟨b2, 0, none⟩)] (fun yv => rfl) (fun yv h => by simp [Sh.eats, Sh.eat, eatV, eatP, h]) ?_
  intro yv J E hyv hy hpre h hw hJ hdj
  have la := hT.la; have lb := hT.lb
  have hlen : ((T.steps i j).map fun x => [stepV x]).length = (st1 T i j).length + (st2 T i j).length + (st3 T i j).length := by rw [steps_parts]; simp; omega
  rw [hlen]
  have hA : ∀ {hX : HW} (hw : ∃ w, hX.H w) (q : Nat), J q hX → ∀ w, hX.H w → S.le (Mv.of w) := fun hw q hq w h => hpre q _ w hq h
  have ei := add_i64 i (by omega)
  have ej := add_i64 j (by omega)
  have b0e : box3 b0 b1 b2 T.tb i j b0 = some (box 73 (.pointer (some ⟨T.tb, 0, none⟩))) := box3_0
  have b1e : box3 b0 b1 b2 T.tb i j b1 = some (box 3 (.int .i64 (i : Int))) := box3_1 h01
  have b2e : box3 b0 b1 b2 T.tb i j b2 = some (box 3 (.int .i64 (j : Int))) := box3_2 h02 h12
  generalize hm : box3 b0 b1 b2 T.tb i j = m at *
  have cS : ∀ {hX : HW} {hw : ∃ w, hX.H w} {hS' : ∀ w, hX.H w → S.le (Mv.of w)} {ρ : Env} {blks : List Blk}, Good (Cx.inside hX S hw hS') [] m → TD.at T (vw (Cx.inside hX S hw hS') [] ρ blks m) := fun g => hS.mono g.R
  -- are both words unfinished?
  refine .joinY (fun us m' hX => us = [.b (decide (i < T.A.w.length ∧ j < T.B.w.length))] ∧ m = m' ∧ J 0 hX) ?_ ?_
  · refine .into hw (hA hw 0 hJ) (.loadB (.int .i64 (i : Int)) b1 3 rfl b1e (.loadB (.pointer (some ⟨T.tb, 0, none⟩)) b0 73 rfl b0e (.chk rfl (.chk rfl (.loadS T.hd 0 _ _ _ rfl rfl (fun g => (cS g).1) (.chk (by ((try simp only [BT.eval, IT.eval, SV.den, SV.dens, Env.int, Env.bool, Env.val, Env.ptr, letsOf, letU, snd, List.flatMap_cons, List.flatMap_nil, List.cons_append, List.nil_append, List.append_assoc, List.getElem?_cons_zero, List.getElem?_cons_succ]); (try simp only [cm, cond_true, cond_false, pick_or, pick_and, Bool.or_eq_true, Bool.and_eq_true, Bool.or_eq_false_iff, Bool.and_eq_false_iff, Bool.not_eq_true', Bool.not_eq_false', decide_eq_true_eq, decide_eq_false_iff_not, beq_iff_eq, beq_eq_false_iff_ne, bne_iff_ne, bne_eq_false_iff_eq, ge_iff_le, gt_iff_lt, Int.not_lt, Int.not_le])); omega) ?_))))))
    refine .ite (fun h1 => .loadB (.int .i64 (j : Int)) b2 3 rfl b2e (.loadB (.pointer (some ⟨T.tb, 0, none⟩)) b0 73 rfl b0e (.chk rfl (.chk rfl (.loadS T.hd 1 _ _ _ rfl rfl (fun g => (cS g).1) (.chk (by ((try simp only [BT.eval, IT.eval, SV.den, SV.dens, Env.int, Env.bool, Env.val, Env.ptr, letsOf, letU, snd, List.flatMap_cons, List.flatMap_nil, List.cons_append, List.nil_append, List.append_assoc, List.getElem?_cons_zero, List.getElem?_cons_succ]); (try simp only [cm, cond_true, cond_false, pick_or, pick_and, Bool.or_eq_true, Bool.and_eq_true, Bool.or_eq_false_iff, Bool.and_eq_false_iff, Bool.not_eq_true', Bool.not_eq_false', decide_eq_true_eq, decide_eq_false_iff_not, beq_iff_eq, beq_eq_false_iff_ne, bne_iff_ne, bne_eq_false_iff_eq, ge_iff_le, gt_iff_lt, Int.not_lt, Int.not_le])); omega) (.againY rfl ⟨?_, rfl, hJ⟩))))))) (fun h1 => .againY rfl ⟨?_, rfl, hJ⟩) <;> ((try simp only [BT.eval, IT.eval, SV.den, SV.dens, Env.int, Env.bool, Env.val, Env.ptr, letsOf, letU, snd, List.flatMap_cons, List.flatMap_nil, List.cons_append, List.nil_append, List.append_assoc, List.getElem?_cons_zero, List.getElem?_cons_succ] at h1); (try simp only [cm, cond_true, cond_false, pick_or, pick_and, Bool.or_eq_true, Bool.and_eq_true, Bool.or_eq_false_iff, Bool.and_eq_false_iff, Bool.not_eq_true', Bool.not_eq_false', decide_eq_true_eq, decide_eq_false_iff_not, beq_iff_eq, beq_eq_false_iff_ne, bne_iff_ne, bne_eq_false_iff_eq, ge_iff_le, gt_iff_lt, Int.not_lt, Int.not_le] at h1))
    · (simp only [letsOf, letU, snd, List.flatMap_cons, List.flatMap_nil, Sh.uss, Sh.us, IT.eval, BT.eval, SV.den, SV.dens, Env.int, Env.bool, Env.val, Env.ptr, atAddr, map_add0, List.append_assoc, List.cons_append, List.nil_append, List.append_nil, List.getElem?_cons_zero, List.getElem?_cons_succ])
      show [U.b (decide ((j : Int) < (T.B.w.length : Int)))] = _
      have : i < T.A.w.length := by omega
      simp [this]
    · (simp only [letsOf, letU, snd, List.flatMap_cons, List.flatMap_nil, Sh.uss, Sh.us, IT.eval, BT.eval, SV.den, SV.dens, Env.int, Env.bool, Env.val, Env.ptr, atAddr, map_add0, List.append_assoc, List.cons_append, List.nil_append, List.append_nil, List.getElem?_cons_zero, List.getElem?_cons_succ])
      have : ¬ i < T.A.w.length := by omega
      simp [this]
  rintro _ m' hX _ ⟨rfl, rfl, hJ0⟩ hwX
  refine .joinY (fun us m' hX => us = [] ∧ m = m' ∧ J (st1 T i j).length hX) ?_ ?_
  · refine .into hwX (hA hwX 0 hJ0) (.ite (fun h1 => ?_) (fun h1 => .againY rfl ⟨rfl, rfl, ?_⟩)) <;> ((try simp only [BT.eval, IT.eval, SV.den, SV.dens, Env.int, Env.bool, Env.val, Env.ptr, letsOf, letU, snd, List.flatMap_cons, List.flatMap_nil, List.cons_append, List.nil_append, List.append_assoc, List.getElem?_cons_zero, List.getElem?_cons_succ] at h1); (try simp only [cm, cond_true, cond_false, pick_or, pick_and, Bool.or_eq_true, Bool.and_eq_true, Bool.or_eq_false_iff, Bool.and_eq_false_iff, Bool.not_eq_true', Bool.not_eq_false', decide_eq_true_eq, decide_eq_false_iff_not, beq_iff_eq, beq_eq_false_iff_ne, bne_iff_ne, bne_eq_false_iff_eq, ge_iff_le, gt_iff_lt, Int.not_lt, Int.not_le] at h1))
    · obtain ⟨h1, h1'⟩ : i < T.A.w.length ∧ j < T.B.w.length := h1
      refine .loadB (.pointer (some ⟨T.tb, 0, none⟩)) b0 73 rfl b0e (.chk rfl (.chk rfl (.loadS T.hd 0 _ _ _ rfl rfl (fun g => (cS g).1) (.loadB (.int .i64 (i : Int)) b1 3 rfl b1e (.loadW T.A.w i h1 (fun g => (cS g).2.1) ?_)))))
      refine .loadB (.pointer (some ⟨T.tb, 0, none⟩)) b0 73 rfl b0e (.chk rfl (.chk rfl (.loadS T.hd 1 _ _ _ rfl rfl (fun g => (cS g).1) (.loadB (.int .i64 (j : Int)) b2 3 rfl b2e (.loadW T.B.w j h1' (fun g => (cS g).2.2.1) ?_)))))
      refine .loadB (.pointer (some ⟨T.tb, 0, none⟩)) b0 73 rfl b0e (.chk rfl (.chk rfl (.loadCost T.hd 2 _ _ _ _ rfl rfl rfl (fun g => (cS g).1) ?_)))
      refine .env (by (try simp only [letsOf, letU, snd, List.flatMap_cons, List.flatMap_nil, List.cons_append, List.nil_append, List.append_assoc, List.append_nil]); rfl) (.callV (c_dist T.A.w[i] T.B.w[j] T.pc T.cc T.ws T.gap (hT.a.at h1) (hT.b.at h1')) (fun g => (cS g).2.2.2) (.loadB (.int .i64 (i : Int)) b1 3 rfl b1e (.loadB (.int .i64 (j : Int)) b2 3 rfl b2e ?_)))
      have hx1 : st1 T i j = [(i + 1, j + 1, T.d T.A.w[i] T.B.w[j])] := dif_pos ⟨h1, h1'⟩
      refine .env (by (try simp only [letsOf, letU, snd, List.flatMap_cons, List.flatMap_nil, List.cons_append, List.nil_append, List.append_assoc, List.append_nil]); rfl) (.yield hy (q := 0) (x := [stepV (i + 1, j + 1, T.d T.A.w[i] T.B.w[j])]) hJ0 (by rw [steps_parts, hx1]; rfl) (fun hX' hw' hJ' => .no rfl (.againY rfl ⟨rfl, rfl, by rw [hx1]; exact hJ'⟩)) (fun hX' hE => .yes rfl (.stop (.inr hE))) (hargs := ?_))
      simp only [SV.dens, SV.den, IT.eval, stepV, Env.int, List.getElem?_cons_zero, List.getElem?_cons_succ, ei, ej]; rfl
    · have hx1 : st1 T i j = [] := dif_neg (by omega)
      rw [hx1]; exact hJ0
  rintro _ m' hX _ ⟨rfl, rfl, hJ1⟩ hwX
  refine .joinY (fun us m' hX => m = m' ∧ ((us = [.b false] ∧ J ((st1 T i j).length + (st2 T i j).length) hX) ∨ (us = [.b true] ∧ E hX))) ?_ ?_
  · refine .into hwX (hA hwX _ hJ1) (.loadB (.int .i64 (i : Int)) b1 3 rfl b1e (.loadB (.pointer (some ⟨T.tb, 0, none⟩)) b0 73 rfl b0e (.chk rfl (.chk rfl (.loadS T.hd 0 _ _ _ rfl rfl (fun g => (cS g).1) (.chk (by ((try simp only [BT.eval, IT.eval, SV.den, SV.dens, Env.int, Env.bool, Env.val, Env.ptr, letsOf, letU, snd, List.flatMap_cons, List.flatMap_nil, List.cons_append, List.nil_append, List.append_assoc, List.getElem?_cons_zero, List.getElem?_cons_succ]); (try simp only [cm, cond_true, cond_false, pick_or, pick_and, Bool.or_eq_true, Bool.and_eq_true, Bool.or_eq_false_iff, Bool.and_eq_false_iff, Bool.not_eq_true', Bool.not_eq_false', decide_eq_true_eq, decide_eq_false_iff_not, beq_iff_eq, beq_eq_false_iff_ne, bne_iff_ne, bne_eq_false_iff_eq, ge_iff_le, gt_iff_lt, Int.not_lt, Int.not_le])); omega) ?_))))))
    refine .ite (fun h1 => ?_) (fun h1 => .againY rfl ⟨rfl, .inl ⟨rfl, ?_⟩⟩) <;> ((try simp only [BT.eval, IT.eval, SV.den, SV.dens, Env.int, Env.bool, Env.val, Env.ptr, letsOf, letU, snd, List.flatMap_cons, List.flatMap_nil, List.cons_append, List.nil_append, List.append_assoc, List.getElem?_cons_zero, List.getElem?_cons_succ] at h1); (try simp only [cm, cond_true, cond_false, pick_or, pick_and, Bool.or_eq_true, Bool.and_eq_true, Bool.or_eq_false_iff, Bool.and_eq_false_iff, Bool.not_eq_true', Bool.not_eq_false', decide_eq_true_eq, decide_eq_false_iff_not, beq_iff_eq, beq_eq_false_iff_ne, bne_iff_ne, bne_eq_false_iff_eq, ge_iff_le, gt_iff_lt, Int.not_lt, Int.not_le] at h1))
    · have h1 : i < T.A.w.length := by omega
      have hx2 : st2 T i j = [(i + 1, j, T.gap)] := if_pos h1
      refine .loadB (.int .i64 (i : Int)) b1 3 rfl b1e (.loadB (.int .i64 (j : Int)) b2 3 rfl b2e (.loadB (.pointer (some ⟨T.tb, 0, none⟩)) b0 73 rfl b0e (.chk rfl (.chk rfl (.chk rfl (.load1 (.int .i64 T.gap) (some ⟨T.tb, 0, none⟩) T.hd 3 rfl rfl (fun g => (cS g).1) rfl ?_))))))
      refine .env (by (try simp only [letsOf, letU, snd, List.flatMap_cons, List.flatMap_nil, List.cons_append, List.nil_append, List.append_assoc, List.append_nil]); rfl) (.yield hy (q := (st1 T i j).length) (x := [stepV (i + 1, j, T.gap)]) hJ1 (by rw [steps_parts, hx2]; simp) (fun hX' hw' hJ' => .againY rfl ⟨rfl, .inl ⟨rfl, by rw [hx2]; exact hJ'⟩⟩) (fun hX' hE => .againY rfl ⟨rfl, .inr ⟨rfl, hE⟩⟩) (hargs := ?_))
      simp only [SV.dens, SV.den, IT.eval, stepV, Env.int, List.getElem?_cons_zero, List.getElem?_cons_succ, ei]
    · have hx2 : st2 T i j = [] := if_neg (by omega)
      rw [hx2]; exact hJ1
  rintro us m' hX _ ⟨rfl, hor⟩ hwX
  rcases hor with ⟨rfl, hJ2⟩ | ⟨rfl, hE2⟩
  · refine .no rfl (.into hwX (hA hwX _ hJ2) (.loadB (.int .i64 (j : Int)) b2 3 rfl b2e (.loadB (.pointer (some ⟨T.tb, 0, none⟩)) b0 73 rfl b0e (.chk rfl (.chk rfl (.loadS T.hd 1 _ _ _ rfl rfl (fun g => (cS g).1) (.chk (by ((try simp only [BT.eval, IT.eval, SV.den, SV.dens, Env.int, Env.bool, Env.val, Env.ptr, letsOf, letU, snd, List.flatMap_cons, List.flatMap_nil, List.cons_append, List.nil_append, List.append_assoc, List.getElem?_cons_zero, List.getElem?_cons_succ]); (try simp only [cm, cond_true, cond_false, pick_or, pick_and, Bool.or_eq_true, Bool.and_eq_true, Bool.or_eq_false_iff, Bool.and_eq_false_iff, Bool.not_eq_true', Bool.not_eq_false', decide_eq_true_eq, decide_eq_false_iff_not, beq_iff_eq, beq_eq_false_iff_ne, bne_iff_ne, bne_eq_false_iff_eq, ge_iff_le, gt_iff_lt, Int.not_lt, Int.not_le])); omega) ?_)))))))
    refine .joinY (fun us m' hX => us = [] ∧ (J ((st1 T i j).length + (st2 T i j).length + (st3 T i j).length) hX ∨ E hX)) ?_ ?_
    · refine .ite (fun h1 => ?_) (fun h1 => .againY rfl ⟨rfl, .inl ?_⟩) <;> ((try simp only [BT.eval, IT.eval, SV.den, SV.dens, Env.int, Env.bool, Env.val, Env.ptr, letsOf, letU, snd, List.flatMap_cons, List.flatMap_nil, List.cons_append, List.nil_append, List.append_assoc, List.getElem?_cons_zero, List.getElem?_cons_succ] at h1); (try simp only [cm, cond_true, cond_false, pick_or, pick_and, Bool.or_eq_true, Bool.and_eq_true, Bool.or_eq_false_iff, Bool.and_eq_false_iff, Bool.not_eq_true', Bool.not_eq_false', decide_eq_true_eq, decide_eq_false_iff_not, beq_iff_eq, beq_eq_false_iff_ne, bne_iff_ne, bne_eq_false_iff_eq, ge_iff_le, gt_iff_lt, Int.not_lt, Int.not_le] at h1))
      · have h1 : j < T.B.w.length := by omega
        have hx3 : st3 T i j = [(i, j + 1, T.gap)] := if_pos h1
        refine .loadB (.int .i64 (i : Int)) b1 3 rfl b1e (.loadB (.int .i64 (j : Int)) b2 3 rfl b2e (.loadB (.pointer (some ⟨T.tb, 0, none⟩)) b0 73 rfl b0e (.chk rfl (.chk rfl (.chk rfl (.load1 (.int .i64 T.gap) (some ⟨T.tb, 0, none⟩) T.hd 3 rfl rfl (fun g => (cS g).1) rfl ?_))))))
        refine .env (by (try simp only [letsOf, letU, snd, List.flatMap_cons, List.flatMap_nil, List.cons_append, List.nil_append, List.append_assoc, List.append_nil]); rfl) (.yield hy (q := (st1 T i j).length + (st2 T i j).length) (x := [stepV (i, j + 1, T.gap)]) hJ2 (by rw [steps_parts, hx3, ← List.append_assoc, List.map_append, List.getElem?_append_right (by simp)]; simp) (fun hX' hw' hJ' => .againY rfl ⟨rfl, .inl (by rw [hx3]; exact hJ')⟩) (fun hX' hE => .againY rfl ⟨rfl, .inr hE⟩) (hargs := ?_))
        simp only [SV.dens, SV.den, IT.eval, stepV, Env.int, List.getElem?_cons_zero, List.getElem?_cons_succ, ej]
      · have hx3 : st3 T i j = [] := if_neg (by omega)
        rw [hx3]; exact hJ2
    · rintro _ m' hX _ ⟨rfl, hor⟩ hwX
      exact .stop hor
  · exact .yes rfl (.stop (.inr hE2))
end Go.Proofs.YtedfogpnmpmggaaDoor
