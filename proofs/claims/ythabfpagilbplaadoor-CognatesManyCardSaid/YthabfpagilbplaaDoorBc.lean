/- edit.Longest and what it takes from check. -/
import Derived.Test.YthabfpagilbplaaDoorBb
import Derived.Test.YthabfpagilbplaaDoorBa
import Derived.Test.YthabfpagilbplaaDoorTd
set_option linter.unusedSimpArgs false
set_option linter.unusedVariables false
/- edit.Longest and what it takes from check. -/
namespace Go.Sy
open Go
def longE (a b : List Snd) : Int × Int := if checkL [a, b] ≠ 0 then (0, checkL [a, b]) else ((lcs a b : Int), 0)
theorem checkL_two {a b : List Snd} (h : checkL [a, b] = 0) : checkW a = 0 ∧ checkW b = 0 := by
  unfold checkL at h
  split at h
  · omega
  · unfold checkL at h
    split at h
    · omega
    · omega
end Go.Sy
namespace Go.Proofs.YthabfpagilbplaaDoor
open Go Go.Sy Go.RowKit
end Go.Proofs.YthabfpagilbplaaDoor
/- The steps of alignments, as edit goes over them. -/
namespace Go.Sy
open Go Go.RowKit
section
variable {P : Program} {c : Cx} {L : List Nat} {ρ : Env} {blks : List Blk} {m : Mem} {R : Value → HW → Prop} {Dn : Nat → List U → HW → Prop} {A : List (List U → HW → Prop)}
theorem DenM.loadB {i : Nat} {s : Sh} {k : Tree} (v : Value) (b : Nat) (e : TypeId) (hp : ρ.ptr i = some ⟨b, 0, none⟩) (hm : m b = some (box e v)) (hk : DenM P R Dn k L (ρ ++ lU v) c m A)
    (hus : Sh.eats [s] (lU v) = some [] := by rfl) (hv : SV.dens L (ρ ++ lU v) (Sh.freshs [s] ρ.length).1 = [v] := by rfl) : DenM P R Dn (.load i (.lit 0) [s] blks k) L ρ c m A :=
  .load1 v (some ⟨b, 0, none⟩) [v] 0 hp rfl (fun g i x hx => ⟨b, 0, rfl, by rw [vw_mem g hm, Nat.zero_add]; simpa using hx⟩) rfl hk hus hv
theorem DenM.loadS {i : Nat} {off : IT} {k : Tree} (xs : List Value) (j : Nat) (q : Option Addr) (kn cap : Nat) (ho : off.eval ρ = (j : Int)) (hx : xs[j]? = some (slv q kn cap)) (hw : Good c L m → Cells (vw c L ρ blks m) (ρ.ptr i) xs) (hk : DenM P R Dn k L (ρ ++ [.p q, .i kn, .i cap]) c m A) :
    DenM P R Dn (.load i off [.sl] blks k) L ρ c m A := by
  refine .loadC [.p q, .i kn, .i cap] (ρ.ptr i) xs j rfl ho rfl hw (List.getElem?_eq_some_iff.1 hx).1 (fun q' v hv => ?_) hk
  match q', hv with
  | 0, hv =>
    simp only [Sh.freshs, SV.dens] at hv
    rw [slv_fresh] at hv
    simp only [List.getElem?_cons_zero, Option.some.injEq] at hv
    rw [← hv]; exact hx
  | q' + 1, hv => simp [Sh.freshs, SV.dens] at hv
theorem DenM.loadCost {i : Nat} {off : IT} {k : Tree} (xs : List Value) (j : Nat) (q : Option Addr) (kn cap : Nat) (gap : Int) (ho : off.eval ρ = (j : Int)) (hx : xs[j]? = some (slv q kn cap)) (hx' : xs[j + 1]? = some (.int .i64 gap)) (hw : Good c L m → Cells (vw c L ρ blks m) (ρ.ptr i) xs) (hk : DenM P R Dn k L (ρ ++ [.p q, .i kn, .i cap, .i gap]) c m A) :
    DenM P R Dn (.load i off [.sl, .int .i64] blks k) L ρ c m A := by
  refine .loadC [.p q, .i kn, .i cap, .i gap] (ρ.ptr i) xs j rfl ho rfl hw (List.getElem?_eq_some_iff.1 hx).1 (fun q' v hv => ?_) hk
  have h1 : (Sh.sl.fresh ρ.length).1.den L (ρ ++ [.p q, .i kn, .i cap, .i gap]) = slv q kn cap := by
    simp only [Sh.fresh, SV.den, IT.eval, atAddr, slv]
    have e0 := getElem_env ρ [.p q, .i kn, .i cap, .i gap] 0
    have e1 := getElem_env ρ [.p q, .i kn, .i cap, .i gap] 1
    have e2 := getElem_env ρ [.p q, .i kn, .i cap, .i gap] 2
    simp only [Env.ptr, Env.int, Nat.add_zero] at *
    rw [e0, e1, e2]
    cases q <;> simp [addr_zero]
  have h2 : (ρ ++ [.p q, .i kn, .i cap, .i gap])[ρ.length + 3]? = some (U.i gap) := getElem_env ρ _ 3
  match q', hv with
  | 0, hv =>
    simp only [Sh.freshs, SV.dens] at hv
    rw [h1] at hv
    simp only [List.getElem?_cons_zero, Option.some.injEq] at hv
    rw [← hv]; exact hx
  | 1, hv =>
    simp only [Sh.freshs, Sh.fresh, SV.dens, SV.den, IT.eval, Env.int, List.getElem?_cons_succ, List.getElem?_cons_zero, Option.some.injEq] at hv
    rw [h2] at hv
    rw [← hv]; exact hx'
  | q' + 2, hv => simp [Sh.freshs, SV.dens] at hv
end
structure TD where
  tb : Nat
  A : WD
  B : WD
  pc : Option Addr
  cc : Nat
  ws : List Int
  gap : Int
def TD.d (T : TD) : Snd → Snd → Int := fun x y => (distC x y T.ws T.gap).1
def TD.hd (T : TD) : List Value := [T.A.v, T.B.v, slv T.pc T.ws.length T.cc, .int .i64 T.gap]
structure TD.ok (T : TD) : Prop where
  a : Wok T.A.w
  b : Wok T.B.w
  la : T.A.w.length ≤ 32
  lb : T.B.w.length ≤ 32
  va : ∀ s ∈ T.A.w, valid s = true
  vb : ∀ s ∈ T.B.w, valid s = true
  cost : checkC T.ws T.gap = 0
def TD.R (T : TD) (i j : Nat) : Int := RA T.d T.gap T.A.w T.B.w i j
def TD.steps (T : TD) (i j : Nat) : List Stp := stepsA T.d T.gap T.A.w T.B.w i j
theorem distC_pos {x y : Snd} {ws : List Int} {gap : Int} (hc : checkC ws gap = 0) : 0 ≤ (distC x y ws gap).1 ∧ (distC x y ws gap).1 ≤ 1073741824 * 24 := by
  obtain ⟨h1, _, _, h4⟩ := checkC_zero hc
  unfold distC
  split
  · simp
  · rw [if_neg (by simp [hc])]
    have := sumW_bound (diffS x y) ws h4
    simp only
    omega
theorem TD.ok.gap {T : TD} (h : T.ok) : 0 ≤ T.gap ∧ T.gap ≤ 1073741824 := ⟨(checkC_zero h.cost).2.1, (checkC_zero h.cost).2.2.1⟩
theorem TD.ok.R_bound {T : TD} (h : T.ok) (i j : Nat) : 0 ≤ T.R i j ∧ T.R i j ≤ 1073741824 * 64 := by
  have hg := h.gap
  refine ⟨rst_pos hg.1 (fun x y => (distC_pos h.cost).1) _ _, ?_⟩
  have h1 := rst_le (d := T.d) (g := T.gap) (T.A.w.drop i) (T.B.w.drop j)
  have h2 : T.gap * (((T.A.w.drop i).length + (T.B.w.drop j).length : Nat) : Int) ≤ 1073741824 * 64 := by
    refine Int.le_trans (Int.mul_le_mul_of_nonneg_right hg.2 (by omega)) ?_
    have := h.la; have := h.lb
    simp; omega
  exact Int.le_trans h1 h2
end Go.Sy
namespace Go.Proofs.YthabfpagilbplaaDoor
open Go Go.Sy Go.RowKit
def TD.at (T : TD) (V : Mv) : Prop := Cells V (some ⟨T.tb, 0, none⟩) T.hd ∧ WordAt V T.A.p T.A.w ∧ WordAt V T.B.p T.B.w ∧ CostsAt V T.pc T.ws ∧ TabOk V
theorem TD.at.mono {T : TD} {V V' : Mv} (h : TD.at T V) (hle : V.le V') : TD.at T V' := ⟨h.1.mono hle, h.2.1.mono hle, h.2.2.1.mono hle, h.2.2.2.1.mono hle, h.2.2.2.2.mono hle⟩
def box3 (b0 b1 b2 : Nat) (tb : Nat) (i j : Int) : Mem := ((Mem.emp.upd b2 (box 3 (.int .i64 j))).upd b1 (box 3 (.int .i64 i))).upd b0 (box 142 (.pointer (some ⟨tb, 0, none⟩)))
theorem box3_0 {b0 b1 b2 tb : Nat} {i j : Int} : box3 b0 b1 b2 tb i j b0 = some (box 142 (.pointer (some ⟨tb, 0, none⟩))) := Mem.upd_same ..
theorem box3_1 {b0 b1 b2 tb : Nat} {i j : Int} (h : b0 ≠ b1) : box3 b0 b1 b2 tb i j b1 = some (box 3 (.int .i64 i)) := by unfold box3; rw [Mem.upd_other _ _ (Ne.symm h), Mem.upd_same]
theorem box3_2 {b0 b1 b2 tb : Nat} {i j : Int} (h : b0 ≠ b2) (h' : b1 ≠ b2) : box3 b0 b1 b2 tb i j b2 = some (box 3 (.int .i64 j)) := by unfold box3; rw [Mem.upd_other _ _ (Ne.symm h), Mem.upd_other _ _ (Ne.symm h'), Mem.upd_same]
theorem c_steps (tb : Nat) (i j : Int) : FnM Tryd.prog n___edit_table__steps [.pointer (some ⟨tb, 0, none⟩), .int .i64 i, .int .i64 j] (fun _ => True) fun v mq _ => ∃ b0 b1 b2, v = .func (.func n___edit_table__steps_1) #[] #[.pointer (some ⟨b1, 0, none⟩), .pointer (some ⟨b0, 0, none⟩), .pointer (some ⟨b2, 0, none⟩)] ∧ mq = box3 b0 b1 b2 tb i j ∧ b0 ≠ b1 ∧ b0 ≠ b2 ∧ b1 ≠ b2 :=
  FnM.of S___edit_table__steps mx [.p (some ⟨tb, 0, none⟩), .i i, .i j] rfl rfl fun c _ => .alloc fun b0 => .alloc fun b1 => .alloc fun b2 => .retL rfl fun g => ⟨b0, b1, b2, rfl, rfl, by
    have := g.nd
    simp at this
    omega⟩
def stepU (x : Stp) : List U := [.i (x.1 : Int), .i (x.2.1 : Int), .i x.2.2]
def stepV (x : Stp) : Value := .agg #[.int .i64 (x.1 : Int), .int .i64 (x.2.1 : Int), .int .i64 x.2.2]
def st1 (T : TD) (i j : Nat) : List Stp := if h : i < T.A.w.length ∧ j < T.B.w.length then [(i + 1, j + 1, T.d T.A.w[i] T.B.w[j])] else []
def st2 (T : TD) (i j : Nat) : List Stp := if i < T.A.w.length then [(i + 1, j, T.gap)] else []
def st3 (T : TD) (i j : Nat) : List Stp := if j < T.B.w.length then [(i, j + 1, T.gap)] else []
theorem steps_parts (T : TD) (i j : Nat) : T.steps i j = st1 T i j ++ (st2 T i j ++ st3 T i j) := by
  unfold TD.steps stepsA st1 st2 st3
  rcases Nat.lt_or_ge i T.A.w.length with hi | hi <;> rcases Nat.lt_or_ge j T.B.w.length with hj | hj
  · rw [List.getElem?_eq_getElem hi, List.getElem?_eq_getElem hj, dif_pos ⟨hi, hj⟩, if_pos hi, if_pos hj]; rfl
  · rw [List.getElem?_eq_getElem hi, List.getElem?_eq_none hj, dif_neg (by omega), if_pos hi, if_neg (by omega)]; rfl
  · rw [List.getElem?_eq_none hi, List.getElem?_eq_getElem hj, dif_neg (by omega), if_neg (by omega), if_pos hj]; rfl
  · rw [List.getElem?_eq_none hi, List.getElem?_eq_none hj, dif_neg (by omega), if_neg (by omega), if_neg (by omega)]; rfl
theorem it_steps (T : TD) (hT : T.ok) (i j : Nat) (hi : i ≤ T.A.w.length) (hj : j ≤ T.B.w.length) (b0 b1 b2 : Nat) (h01 : b0 ≠ b1) (h02 : b0 ≠ b2) (h12 : b1 ≠ b2) (S : Mv) (hS : TD.at T S) :
    Iter Tryd.prog n___edit_table__steps_1 #[.pointer (some ⟨b1, 0, none⟩), .pointer (some ⟨b0, 0, none⟩), .pointer (some ⟨b2, 0, none⟩)] (fun w => S.le (Mv.of w)) (HW.mem (box3 b0 b1 b2 T.tb i j)) ((T.steps i j).map fun x => [stepV x]) := by
  refine Iter.of S___edit_table__steps_1 mx [.p (some ⟨b1, 0, none⟩), .p (some ⟨b0, 0, none⟩), .p (some ⟨b2, 0, none⟩)] (fun yv => rfl) (fun yv h => by simp [Sh.eats, Sh.eat, eatV, eatP, h]) ?_
  intro yv J E hyv hy hpre h hw hJ hdj
  have la := hT.la; have lb := hT.lb
  have hlen : ((T.steps i j).map fun x => [stepV x]).length = (st1 T i j).length + (st2 T i j).length + (st3 T i j).length := by rw [steps_parts]; simp; omega
  rw [hlen]
  have hA : ∀ {hX : HW} (hw : ∃ w, hX.H w) (q : Nat), J q hX → ∀ w, hX.H w → S.le (Mv.of w) := fun hw q hq w h => hpre q _ w hq h
  have ei := add_i64 i (by omega)
  have ej := add_i64 j (by omega)
  have b0e : box3 b0 b1 b2 T.tb i j b0 = some (box 142 (.pointer (some ⟨T.tb, 0, none⟩))) := box3_0
  have b1e : box3 b0 b1 b2 T.tb i j b1 = some (box 3 (.int .i64 (i : Int))) := box3_1 h01
  have b2e : box3 b0 b1 b2 T.tb i j b2 = some (box 3 (.int .i64 (j : Int))) := box3_2 h02 h12
  generalize hm : box3 b0 b1 b2 T.tb i j = m at *
  have cS : ∀ {hX : HW} {hw : ∃ w, hX.H w} {hS' : ∀ w, hX.H w → S.le (Mv.of w)} {ρ : Env} {blks : List Blk}, Good (Cx.inside hX S hw hS') [] m → TD.at T (vw (Cx.inside hX S hw hS') [] ρ blks m) := fun g => hS.mono g.R
  -- are both words unfinished?
  refine .joinY (fun us m' hX => us = [.b (decide (i < T.A.w.length ∧ j < T.B.w.length))] ∧ m = m' ∧ J 0 hX) ?_ ?_
  · refine .into hw (hA hw 0 hJ) (.loadB (.int .i64 (i : Int)) b1 3 rfl b1e (.loadB (.pointer (some ⟨T.tb, 0, none⟩)) b0 142 rfl b0e (.chk rfl (.chk rfl (.loadS T.hd 0 _ _ _ rfl rfl (fun g => (cS g).1) (.chk (by ((try simp only [evE, liE, lO, lU, snd]); (try simp only [cmE])); omega) ?_))))))
    refine .ite (fun h1 => .loadB (.int .i64 (j : Int)) b2 3 rfl b2e (.loadB (.pointer (some ⟨T.tb, 0, none⟩)) b0 142 rfl b0e (.chk rfl (.chk rfl (.loadS T.hd 1 _ _ _ rfl rfl (fun g => (cS g).1) (.chk (by ((try simp only [evE, liE, lO, lU, snd]); (try simp only [cmE])); omega) (.againY rfl ⟨?_, rfl, hJ⟩))))))) (fun h1 => .againY rfl ⟨?_, rfl, hJ⟩) <;> ((try simp only [evE, liE, lO, lU, snd] at h1); (try simp only [cmE] at h1))
    · (simp only [evE, liE, lO, lU, snd, Sh.uss, Sh.us, atAddr, map_add0, List.append_nil])
      show [U.b (decide ((j : Int) < (T.B.w.length : Int)))] = _
      have : i < T.A.w.length := by omega
      simp [this]
    · (simp only [evE, liE, lO, lU, snd, Sh.uss, Sh.us, atAddr, map_add0, List.append_nil])
      have : ¬ i < T.A.w.length := by omega
      simp [this]
  rintro _ m' hX _ ⟨rfl, rfl, hJ0⟩ hwX
  refine .joinY (fun us m' hX => us = [] ∧ m = m' ∧ J (st1 T i j).length hX) ?_ ?_
  · refine .into hwX (hA hwX 0 hJ0) (.ite (fun h1 => ?_) (fun h1 => .againY rfl ⟨rfl, rfl, ?_⟩)) <;> ((try simp only [evE, liE, lO, lU, snd] at h1); (try simp only [cmE] at h1))
    · obtain ⟨h1, h1'⟩ : i < T.A.w.length ∧ j < T.B.w.length := h1
      refine .loadB (.pointer (some ⟨T.tb, 0, none⟩)) b0 142 rfl b0e (.chk rfl (.chk rfl (.loadS T.hd 0 _ _ _ rfl rfl (fun g => (cS g).1) (.loadB (.int .i64 (i : Int)) b1 3 rfl b1e (.loadW T.A.w i h1 (fun g => (cS g).2.1) ?_)))))
      refine .loadB (.pointer (some ⟨T.tb, 0, none⟩)) b0 142 rfl b0e (.chk rfl (.chk rfl (.loadS T.hd 1 _ _ _ rfl rfl (fun g => (cS g).1) (.loadB (.int .i64 (j : Int)) b2 3 rfl b2e (.loadW T.B.w j h1' (fun g => (cS g).2.2.1) ?_)))))
      refine .loadB (.pointer (some ⟨T.tb, 0, none⟩)) b0 142 rfl b0e (.chk rfl (.chk rfl (.loadCost T.hd 2 _ _ _ _ rfl rfl rfl (fun g => (cS g).1) ?_)))
      refine .env (by (try simp only [liE, lO, lU, snd, aN]); rfl) (.callV (c_dist T.A.w[i] T.B.w[j] T.pc T.cc T.ws T.gap (hT.a.at h1) (hT.b.at h1')) (fun g => (cS g).2.2.2) (.loadB (.int .i64 (i : Int)) b1 3 rfl b1e (.loadB (.int .i64 (j : Int)) b2 3 rfl b2e ?_)))
      have hx1 : st1 T i j = [(i + 1, j + 1, T.d T.A.w[i] T.B.w[j])] := dif_pos ⟨h1, h1'⟩
      refine .env (by (try simp only [liE, lO, lU, snd, aN]); rfl) (.yield hy (q := 0) (x := [stepV (i + 1, j + 1, T.d T.A.w[i] T.B.w[j])]) hJ0 (by rw [steps_parts, hx1]; rfl) (fun hX' hw' hJ' => .no rfl (.againY rfl ⟨rfl, rfl, by rw [hx1]; exact hJ'⟩)) (fun hX' hE => .yes rfl (.stop (.inr hE))) (hargs := ?_))
      simp only [SV.dens, SV.den, IT.eval, stepV, Env.int, List.getElem?_cons_zero, List.getElem?_cons_succ, ei, ej]; rfl
    · have hx1 : st1 T i j = [] := dif_neg (by omega)
      rw [hx1]; exact hJ0
  rintro _ m' hX _ ⟨rfl, rfl, hJ1⟩ hwX
  refine .joinY (fun us m' hX => m = m' ∧ ((us = [.b false] ∧ J ((st1 T i j).length + (st2 T i j).length) hX) ∨ (us = [.b true] ∧ E hX))) ?_ ?_
  · refine .into hwX (hA hwX _ hJ1) (.loadB (.int .i64 (i : Int)) b1 3 rfl b1e (.loadB (.pointer (some ⟨T.tb, 0, none⟩)) b0 142 rfl b0e (.chk rfl (.chk rfl (.loadS T.hd 0 _ _ _ rfl rfl (fun g => (cS g).1) (.chk (by ((try simp only [evE, liE, lO, lU, snd]); (try simp only [cmE])); omega) ?_))))))
    refine .ite (fun h1 => ?_) (fun h1 => .againY rfl ⟨rfl, .inl ⟨rfl, ?_⟩⟩) <;> ((try simp only [evE, liE, lO, lU, snd] at h1); (try simp only [cmE] at h1))
    · have h1 : i < T.A.w.length := by omega
      have hx2 : st2 T i j = [(i + 1, j, T.gap)] := if_pos h1
      refine .loadB (.int .i64 (i : Int)) b1 3 rfl b1e (.loadB (.int .i64 (j : Int)) b2 3 rfl b2e (.loadB (.pointer (some ⟨T.tb, 0, none⟩)) b0 142 rfl b0e (.chk rfl (.chk rfl (.chk rfl (.load1 (.int .i64 T.gap) (some ⟨T.tb, 0, none⟩) T.hd 3 rfl rfl (fun g => (cS g).1) rfl ?_))))))
      refine .env (by (try simp only [liE, lO, lU, snd, aN]); rfl) (.yield hy (q := (st1 T i j).length) (x := [stepV (i + 1, j, T.gap)]) hJ1 (by rw [steps_parts, hx2]; simp) (fun hX' hw' hJ' => .againY rfl ⟨rfl, .inl ⟨rfl, by rw [hx2]; exact hJ'⟩⟩) (fun hX' hE => .againY rfl ⟨rfl, .inr ⟨rfl, hE⟩⟩) (hargs := ?_))
      simp only [SV.dens, SV.den, IT.eval, stepV, Env.int, List.getElem?_cons_zero, List.getElem?_cons_succ, ei]
    · have hx2 : st2 T i j = [] := if_neg (by omega)
      rw [hx2]; exact hJ1
  rintro us m' hX _ ⟨rfl, hor⟩ hwX
  rcases hor with ⟨rfl, hJ2⟩ | ⟨rfl, hE2⟩
  · refine .no rfl (.into hwX (hA hwX _ hJ2) (.loadB (.int .i64 (j : Int)) b2 3 rfl b2e (.loadB (.pointer (some ⟨T.tb, 0, none⟩)) b0 142 rfl b0e (.chk rfl (.chk rfl (.loadS T.hd 1 _ _ _ rfl rfl (fun g => (cS g).1) (.chk (by ((try simp only [evE, liE, lO, lU, snd]); (try simp only [cmE])); omega) ?_)))))))
    refine .joinY (fun us m' hX => us = [] ∧ (J ((st1 T i j).length + (st2 T i j).length + (st3 T i j).length) hX ∨ E hX)) ?_ ?_
    · refine .ite (fun h1 => ?_) (fun h1 => .againY rfl ⟨rfl, .inl ?_⟩) <;> ((try simp only [evE, liE, lO, lU, snd] at h1); (try simp only [cmE] at h1))
      · have h1 : j < T.B.w.length := by omega
        have hx3 : st3 T i j = [(i, j + 1, T.gap)] := if_pos h1
        refine .loadB (.int .i64 (i : Int)) b1 3 rfl b1e (.loadB (.int .i64 (j : Int)) b2 3 rfl b2e (.loadB (.pointer (some ⟨T.tb, 0, none⟩)) b0 142 rfl b0e (.chk rfl (.chk rfl (.chk rfl (.load1 (.int .i64 T.gap) (some ⟨T.tb, 0, none⟩) T.hd 3 rfl rfl (fun g => (cS g).1) rfl ?_))))))
        refine .env (by (try simp only [liE, lO, lU, snd, aN]); rfl) (.yield hy (q := (st1 T i j).length + (st2 T i j).length) (x := [stepV (i, j + 1, T.gap)]) hJ2 (by rw [steps_parts, hx3, ← List.append_assoc, List.map_append, List.getElem?_append_right (by simp)]; simp) (fun hX' hw' hJ' => .againY rfl ⟨rfl, .inl (by rw [hx3]; exact hJ')⟩) (fun hX' hE => .againY rfl ⟨rfl, .inr hE⟩) (hargs := ?_))
        simp only [SV.dens, SV.den, IT.eval, stepV, Env.int, List.getElem?_cons_zero, List.getElem?_cons_succ, ej]
      · have hx3 : st3 T i j = [] := if_neg (by omega)
        rw [hx3]; exact hJ2
    · rintro _ m' hX _ ⟨rfl, hor⟩ hwX
      exact .stop hor
  · exact .yes rfl (.stop (.inr hE2))
end Go.Proofs.YthabfpagilbplaaDoor
/- The table of smallest costs, as edit makes it. -/
namespace Go.Sy
open Go Go.RowKit
theorem dens_append (L : List Nat) (ρ : Env) (a b : List SV) : SV.dens L ρ (a ++ b) = SV.dens L ρ a ++ SV.dens L ρ b := by
  induction a with
  | nil => rfl
  | cons x a ih => simp only [List.cons_append, SV.dens, ih]
theorem dens_replicate (L : List Nat) (ρ : Env) (n : Nat) (x : SV) : SV.dens L ρ (List.replicate n x) = List.replicate n (x.den L ρ) := by
  induction n with
  | zero => rfl
  | succ n ih => simp only [List.replicate_succ, SV.dens, ih]
section
variable {P : Program} {c : Cx} {L : List Nat} {ρ : Env} {blks : List Blk} {m : Mem} {R : Value → HW → Prop} {Dn : Nat → List U → HW → Prop} {A : List (List U → HW → Prop)}
theorem DenM.loadV {i : Nat} {s : Sh} {k : Tree} (v : Value) (b : Nat) (e : TypeId) (j0 : Nat) (hp : ρ.ptr i = some ⟨b, 0, none⟩) (h : (∃ blk, L[j0]? = some b ∧ blks[j0]? = some blk ∧ (SV.dens L ρ blk.cells)[0]? = some v) ∨ m b = some (box e v)) (hk : DenM P R Dn k L (ρ ++ lU v) c m A)
    (hus : Sh.eats [s] (lU v) = some [] := by rfl) (hv : SV.dens L (ρ ++ lU v) (Sh.freshs [s] ρ.length).1 = [v] := by rfl) : DenM P R Dn (.load i (.lit 0) [s] blks k) L ρ c m A := by
  rcases h with ⟨blk, h1, h2, h3⟩ | hm
  · refine .load1 v (some ⟨b, 0, none⟩) [v] 0 hp rfl (fun g i x hx => ⟨b, 0, rfl, ?_⟩) rfl hk hus hv
    rw [g.at h1 h2, Nat.zero_add]
    match i, hx with
    | 0, hx => cases hx; exact h3
    | i + 1, hx => simp at hx
  · exact .loadB v b e hp hm hk hus hv
theorem Mem.join_at {m mq : Mem} {b : Nat} {o : Obj} (h : m b = some o) : m.join mq b = some o := by unfold Mem.join; rw [h]
end
theorem minL_snoc {l : List Int} {x : Int} (h : l ≠ []) : minL (l ++ [x]) = min (minL l) x := by
  cases l with
  | nil => exact absurd rfl h
  | cons y l => simp [minL, List.foldl_append]
theorem TD.steps_le (T : TD) {i j : Nat} (hi : i ≤ T.A.w.length) (hj : j ≤ T.B.w.length) {x : Stp} (hx : x ∈ T.steps i j) : x.1 ≤ T.A.w.length ∧ x.2.1 ≤ T.B.w.length ∧ (i < x.1 ∨ (x.1 = i ∧ j < x.2.1)) ∧ (x.2.2 = T.gap ∨ ∃ s t, x.2.2 = T.d s t) ∧ i ≤ x.1 ∧ x.1 ≤ i + 1 ∧ j ≤ x.2.1 ∧ x.2.1 ≤ j + 1 := by
  unfold TD.steps stepsA at hx
  rcases Nat.lt_or_ge i T.A.w.length with h1 | h1 <;> rcases Nat.lt_or_ge j T.B.w.length with h2 | h2
  · rw [List.getElem?_eq_getElem h1, List.getElem?_eq_getElem h2] at hx
    simp only [List.mem_cons, List.not_mem_nil, or_false] at hx
    rcases hx with rfl | rfl | rfl
    · exact ⟨by simp; omega, by simp; omega, by simp, .inr ⟨_, _, rfl⟩, by simp⟩
    · exact ⟨by simp; omega, by simp; omega, by simp, .inl rfl, by simp⟩
    · exact ⟨by simp; omega, by simp; omega, by simp, .inl rfl, by simp⟩
  · rw [List.getElem?_eq_getElem h1, List.getElem?_eq_none h2] at hx
    simp only [List.mem_cons, List.not_mem_nil, or_false] at hx
    subst hx
    exact ⟨by simp; omega, by simp; omega, by simp, .inl rfl, by simp⟩
  · rw [List.getElem?_eq_none h1, List.getElem?_eq_getElem h2] at hx
    simp only [List.mem_cons, List.not_mem_nil, or_false] at hx
    subst hx
    exact ⟨by simp; omega, by simp; omega, by simp, .inl rfl, by simp⟩
  · rw [List.getElem?_eq_none h1, List.getElem?_eq_none h2] at hx
    simp at hx
theorem TD.ok.cost_bound {T : TD} (h : T.ok) {x : Stp} (hx : x.2.2 = T.gap ∨ ∃ s t, x.2.2 = T.d s t) : 0 ≤ x.2.2 ∧ x.2.2 ≤ 1073741824 * 24 := by
  rcases hx with e | ⟨s, t, e⟩ <;> rw [e]
  · have := h.gap; omega
  · exact distC_pos h.cost
def TD.F (T : TD) (i j : Nat) : Nat → Nat → Int := fun i' j' => if (i ≤ i' ∨ (i' + 1 = i ∧ j ≤ j')) ∧ i' ≤ T.A.w.length ∧ j' ≤ T.B.w.length then T.R i' j' else 0
theorem TD.F_start (T : TD) (j : Nat) (hj : T.B.w.length < j) : T.F (T.A.w.length + 1) j = fun _ _ => 0 := by
  funext i' j'
  unfold TD.F
  rw [if_neg (by omega)]
theorem TD.F_row (T : TD) (i j : Nat) (hj : T.B.w.length < j) : T.F (i + 1) 0 = T.F i j := by
  funext i' j'
  unfold TD.F
  by_cases h : (i + 1 ≤ i' ∨ (i' + 1 = i + 1 ∧ 0 ≤ j')) ∧ i' ≤ T.A.w.length ∧ j' ≤ T.B.w.length
  · rw [if_pos h, if_pos (by omega)]
  · rw [if_neg h, if_neg (by omega)]
theorem TD.F_next (T : TD) (r s : Nat) (hr : r ≤ T.A.w.length) (hs : s ≤ T.B.w.length) : upd2 (T.F (r + 1) (s + 1)) r s (T.R r s) = T.F (r + 1) s := by
  funext i' j'
  unfold upd2 TD.F
  by_cases h : i' = r ∧ j' = s
  · rw [if_pos h, if_pos (by omega), h.1, h.2]
  · rw [if_neg h]
    by_cases h2 : (r + 1 ≤ i' ∨ (i' + 1 = r + 1 ∧ s + 1 ≤ j')) ∧ i' ≤ T.A.w.length ∧ j' ≤ T.B.w.length
    · rw [if_pos h2, if_pos (by omega)]
    · rw [if_neg h2, if_neg (by omega)]
theorem TD.F_here (T : TD) (r s : Nat) : upd2 (T.F (r + 1) (s + 1)) r s 0 = T.F (r + 1) (s + 1) := by
  funext i' j'
  unfold upd2
  by_cases h : i' = r ∧ j' = s
  · rw [if_pos h, h.1, h.2]; unfold TD.F; rw [if_neg (by omega)]
  · rw [if_neg h]
theorem upd2_upd2 (f : Nat → Nat → Int) (r s : Nat) (v v' : Int) : upd2 (upd2 f r s v) r s v' = upd2 f r s v' := by
  funext i' j'
  unfold upd2
  split <;> rfl
end Go.Sy
namespace Go.Proofs.YthabfpagilbplaaDoor
open Go Go.Sy Go.RowKit
def TD.S (T : TD) (c : Cx) : Mv := ⟨fun b o => if b = T.tb then T.hd[o]? else c.R b o, c.R.m⟩
theorem TD.Srd (T : TD) (c : Cx) (b o : Nat) : (TD.S T c).c b o = if b = T.tb then T.hd[o]? else c.R b o := rfl
theorem TD.Sat {T : TD} {c : Cx} (hn : ¬ c.hb.own T.tb) (ha : WordAt c.R T.A.p T.A.w) (hb : WordAt c.R T.B.p T.B.w) (hc : CostsAt c.R T.pc T.ws) (ht : TabOk c.R) : TD.at T (TD.S T c) := by
  have hle : c.R.le (TD.S T c) := ⟨fun b o v h => by
    rw [TD.Srd, if_neg (fun e : b = T.tb => hn (e ▸ c.own b o v h))]; exact h, fun _ _ h => h⟩
  exact ⟨fun i x hx => ⟨T.tb, 0, rfl, by rw [TD.Srd, if_pos rfl, Nat.zero_add]; exact hx⟩, ha.mono hle, hb.mono hle, hc.mono hle, ht.mono hle⟩
theorem TD.Sle {T : TD} {c : Cx} {f : Nat → Nat → Int} {e : TypeId} {L : List Nat} {ρ : Env} {blks : List Blk} {m : Mem} {w : World} (hm : m T.tb = some (.cells (gcells T.hd .i64 f).toArray e (0, 0))) (hw : Wd L ρ blks (c.hw m) w) : (TD.S T c).le (Mv.of w) := ⟨fun b o v h => by
  rw [TD.Srd] at h
  split at h
  · rename_i e'
    subst e'
    have hlt := (List.getElem?_eq_some_iff.1 h).1
    show w.cell? ⟨T.tb, o, none⟩ = _
    have := hw.hold.2 _ _ hm
    simp only [World.cell?, this]
    simp only [Option.isSome_none, Bool.false_eq_true, if_false, List.getElem?_toArray]
    rw [gcells_hd _ _ _ _ hlt]; exact h
  · exact c.ok w b o v hw.hold.1 h, fun b es h => c.okm w b es hw.hold.1 h⟩
theorem box_ne {m : Mem} {b tb : Nat} {e e' : TypeId} {v : Value} {hd : List Value} {k : IntKind} {f : Nat → Nat → Int} (h : m b = some (box e v)) (h' : m tb = some (.cells (gcells hd k f).toArray e' (0, 0))) : b ≠ tb := by
  rintro rfl
  rw [h] at h'
  simp only [box, Option.some.injEq, Obj.cells.injEq] at h'
  have := congrArg Array.size h'.1
  have h2 := gcells_len hd k f
  simp at this
  omega
set_option maxHeartbeats 1000000 in
theorem c_newTable (A B : WD) (pc : Option Addr) (cc : Nat) (ws : List Int) (gap : Int) (ha : Wok A.w) (hb : Wok B.w) :
    FnM Tryd.prog n_edit_newTable [A.v, B.v, costs pc ws.length cc gap] (fun R => WordAt R A.p A.w ∧ WordAt R B.p B.w ∧ CostsAt R pc ws ∧ TabOk R) fun v mq _ =>
      (checkE ws gap [A.w, B.w] ≠ 0 → v = .tuple #[.pointer none, .int .i64 (checkE ws gap [A.w, B.w])]) ∧
      (checkE ws gap [A.w, B.w] = 0 → ∃ tb, TD.ok ⟨tb, A, B, pc, cc, ws, gap⟩ ∧ v = .tuple #[.pointer (some ⟨tb, 0, none⟩), .int .i64 0] ∧ mq tb = some (.cells (gcells (TD.hd ⟨tb, A, B, pc, cc, ws, gap⟩) .i64 (TD.F ⟨tb, A, B, pc, cc, ws, gap⟩ 0 0)).toArray 148 (0, 0))) := by
  obtain ⟨pa, ca, a⟩ := A
  obtain ⟨pb, cb, b⟩ := B
  simp only [] at ha hb
  refine FnM.of S_edit_newTable mx [.p pa, .i a.length, .i ca, .p pb, .i b.length, .i cb, .p pc, .i ws.length, .i cc, .i gap] rfl rfl fun c hp => .alloc fun b0 => .alloc fun b1 => ?_
  obtain ⟨hp1, hp2, hp3, hp4⟩ := hp
  refine .callV (c_editCheck pc cc ws gap (some ⟨b1, 0, none⟩) 2 [⟨pa, ca, a⟩, ⟨pb, cb, b⟩] (by simp [ha, hb]) (by simp)) (fun g => ⟨hp3.mono g.R, fun i x hx => ⟨b1, 0, rfl, ?_⟩, ?_⟩) (.ite (fun h1 => .ret rfl ?_) (fun h1 => ?_))
  · rw [g.at (j := 1) rfl rfl, Nat.zero_add]; exact hx
  · simp only [List.mem_cons, List.not_mem_nil, or_false]
    rintro x (rfl | rfl)
    · exact hp1.mono g.R
    · exact hp2.mono g.R
  · ((try simp only [evE, liE, lO, lU, snd] at h1); (try simp only [cmE] at h1))
    replace h1 : checkE ws gap [a, b] ≠ 0 := h1
    exact ⟨fun _ => by ((try simp only [evE, liE, lO, lU, snd]); (try simp only [cmE])); rfl, fun h => absurd h h1⟩
  ((try simp only [evE, liE, lO, lU, snd] at h1); (try simp only [cmE] at h1))
  replace h1 : checkE ws gap [a, b] = 0 := h1
  have hc1 : checkC ws gap = 0 ∧ checkL [a, b] = 0 := by
    unfold checkE at h1
    split at h1
    · omega
    · omega
  obtain ⟨la, va⟩ := checkW_zero (checkL_two hc1.2).1
  obtain ⟨lb, vb⟩ := checkW_zero (checkL_two hc1.2).2
  rw [show checkE ws gap (List.map (fun x : WD => x.w) [⟨pa, ca, a⟩, ⟨pb, cb, b⟩]) = 0 from h1]
  refine .env (by (try simp only [liE, lO, lU, snd, aN]); rfl) (.allocc fun tb _ _ htb => ?_)
  let T : TD := ⟨tb, ⟨pa, ca, a⟩, ⟨pb, cb, b⟩, pc, cc, ws, gap⟩
  have hT : T.ok := ⟨ha, hb, la, lb, va, vb, hc1.1⟩
  have hS : TD.at T (TD.S T c) := TD.Sat htb hp1 hp2 hp3 hp4
  have hcells : (Mem.emp.upd tb (.cells (SV.dens [b0, b1] [.p pa, .i a.length, .i ca, .p pb, .i b.length, .i cb, .p pc, .i ws.length, .i cc, .i gap, .i 0] ([(.sl 0 (.lit 0) (.var 1) (.var 2)), (.sl 3 (.lit 0) (.var 4) (.var 5)), (.sl 6 (.lit 0) (.var 7) (.var 8)), (.int .i64 (.var 9))] ++ List.replicate 1089 (.int .i64 (.lit 0)))).toArray 148 (0, 0))) tb = some (.cells (gcells T.hd .i64 (T.F (a.length + 1) (b.length + 1))).toArray 148 (0, 0)) := by
    rw [Mem.upd_same, dens_append, dens_replicate, TD.F_start T (b.length + 1) (Nat.lt_succ_self _), gcells_zero]; rfl
  replace hcells : (Mem.emp.upd tb (.cells (SV.dens ([] ++ [b0] ++ [b1]) [.p pa, .i a.length, .i ca, .p pb, .i b.length, .i cb, .p pc, .i ws.length, .i cc, .i gap, .i 0] ([(.sl 0 (.lit 0) (.var 1) (.var 2)), (.sl 3 (.lit 0) (.var 4) (.var 5)), (.sl 6 (.lit 0) (.var 7) (.var 8)), (.int .i64 (.var 9))] ++ List.replicate 1089 (.int .i64 (.lit 0)))).toArray 148 (0, 0))) tb = _ := hcells
  generalize Mem.emp.upd tb _ = m0 at hcells ⊢
  refine .alloc fun b2 => .chk (by ((try simp only [evE, liE, lO, lU, snd]); (try simp only [cmE])); omega) (.alloc fun b3 => ?_)
  refine .env (by (try simp only [liE, lO, lU, snd, aN]); rfl) (.loop (fun n us m => ∃ (i bi : Nat) (x : Int), us = [.p (some ⟨bi, 0, none⟩), .i x] ∧ i = n ∧ i ≤ a.length + 1 ∧ m tb = some (.cells (gcells T.hd .i64 (T.F i (b.length + 1))).toArray 148 (0, 0)) ∧ ((bi = b3 ∧ x = (i : Int) - 1) ∨ m bi = some (box 3 (.int .i64 ((i : Int) - 1))))) (a.length + 1)
    ⟨a.length + 1, b3, _, rfl, rfl, Nat.le_refl _, hcells, .inl ⟨rfl, by simp [IT.eval, Env.int]⟩⟩ ?_)
  clear hcells
  rintro n _ m _ ⟨i, bi, x, rfl, rfl, hia, hm, hbi⟩
  refine .loadV (.int .i64 ((i : Int) - 1)) bi 3 3 rfl (hbi.imp (fun ⟨e1, e2⟩ => ⟨_, by rw [e1]; rfl, rfl, by rw [← e2]; rfl⟩) id) (.ite (fun h2 => ?_) (fun h2 => ?_)) <;> ((try simp only [evE, liE, lO, lU, snd] at h2); (try simp only [cmE] at h2))
  · obtain ⟨r, rfl⟩ : ∃ r, i = r + 1 := ⟨i - 1, by omega⟩
    rw [show ((r + 1 : Nat) : Int) - 1 = (r : Int) by omega] at *
    refine .chk (by ((try simp only [evE, liE, lO, lU, snd]); (try simp only [cmE])); omega) (.alloc fun b4 => .env (by (try simp only [liE, lO, lU, snd, aN]); rfl) (.loop (fun n us m => ∃ (j bj : Nat) (y : Int), us = [.p (some ⟨bj, 0, none⟩), .i y] ∧ j = n ∧ j ≤ b.length + 1 ∧ m tb = some (.cells (gcells T.hd .i64 (T.F (r + 1) j)).toArray 148 (0, 0)) ∧ ((bi = b3 ∧ x = (r : Int)) ∨ m bi = some (box 3 (.int .i64 (r : Int)))) ∧ ((bj = b4 ∧ y = (j : Int) - 1) ∨ m bj = some (box 3 (.int .i64 ((j : Int) - 1))))) (b.length + 1)
      ⟨b.length + 1, b4, _, rfl, rfl, Nat.le_refl _, hm, hbi, .inl ⟨rfl, by simp [IT.eval, Env.int]⟩⟩ ?_))
    clear hbi hm
    rintro n _ m _ ⟨j, bj, y, rfl, rfl, hjb, hm, hbi, hbj⟩
    refine .loadV (.int .i64 ((j : Int) - 1)) bj 3 4 rfl (hbj.imp (fun ⟨e1, e2⟩ => ⟨_, by rw [e1]; rfl, rfl, by rw [← e2]; rfl⟩) id) (.ite (fun h3 => ?_) (fun h3 => ?_)) <;> ((try simp only [evE, liE, lO, lU, snd] at h3); (try simp only [cmE] at h3))
    · obtain ⟨s, rfl⟩ : ∃ s, j = s + 1 := ⟨j - 1, by omega⟩
      rw [show ((s + 1 : Nat) : Int) - 1 = (s : Int) by omega] at *
      have hr : r ≤ a.length := by omega
      have hs : s ≤ b.length := by omega
      refine .alloc fun b5 => .loadV (.int .i64 (r : Int)) bi 3 3 rfl (hbi.imp (fun ⟨e1, e2⟩ => ⟨_, by rw [e1]; rfl, rfl, by rw [← e2]; rfl⟩) id) (.loadV (.int .i64 (s : Int)) bj 3 4 rfl (hbj.imp (fun ⟨e1, e2⟩ => ⟨_, by rw [e1]; rfl, rfl, by rw [← e2]; rfl⟩) id) ?_)
      refine .env (by (try simp only [liE, lO, lU, snd, aN]); rfl) (.callM (c_steps tb r s) rfl rfl (fun _ => trivial) ?_)
      rintro v mq hfr ⟨c0, c1, c2, rfl, rfl, h01, h02, h12⟩
      refine ⟨[.v _], ⟨_, rfl, rfl⟩, rfl, ?_⟩
      let vals : List Int := (T.steps r s).map fun x => x.2.2 + T.R x.1 x.2.1
      have hvals : minL vals = T.R r s := (RA_steps T.d T.gap a b r s).symm
      refine .range n___edit_table__steps_1 _ ((T.steps r s).map stepU) (fun w => (TD.S T c).le (Mv.of w)) (box3 c0 c1 c2 tb r s) m
        (fun k us m' => us = [.b (k == 0)] ∧ m' tb = some (.cells (gcells T.hd .i64 (upd2 (T.F (r + 1) (s + 1)) r s (minL (vals.take k)))).toArray 148 (0, 0)) ∧ ((bi = b3 ∧ x = (r : Int)) ∨ m' bi = some (box 3 (.int .i64 (r : Int)))) ∧ ((bj = b4 ∧ y = (s : Int)) ∨ m' bj = some (box 3 (.int .i64 (s : Int))))) (fun _ _ _ => False)
        rfl (by kernel_rfl) rfl ?_ ?_ ?_ ?_ ?_ ?_ ?_ (fun _ _ _ _ _ hE => hE.elim)
      · intro k hk
        cases hq : box3 c0 c1 c2 tb r s k with
        | none => rfl
        | some o => exact absurd (hfr k (by rw [hq]; simp)).1 hk
      · intro ux hx
        obtain ⟨z, _, rfl⟩ := List.mem_map.1 hx; rfl
      · have := it_steps T hT r s hr hs c0 c1 c2 h01 h02 h12 (TD.S T c) hS
        rw [List.map_map]
        exact this
      · refine ⟨rfl, ?_, hbi, hbj⟩
        show m tb = some (.cells (gcells T.hd .i64 (upd2 (T.F (r + 1) (s + 1)) r s 0)).toArray 148 (0, 0))
        rw [TD.F_here]; exact hm
      · rintro k us m' w ⟨_, hm', _⟩ hw
        exact TD.Sle hm' hw
      · rintro k us ux m' _ hx ⟨rfl, hm', hbi', hbj'⟩
        rw [List.getElem?_map, Option.map_eq_some_iff] at hx
        obtain ⟨z, hz, rfl⟩ := hx
        obtain ⟨hk, hze⟩ := List.getElem?_eq_some_iff.1 hz
        obtain ⟨z1, z2, z3, z4, _⟩ := T.steps_le hr hs (List.mem_of_getElem? hz)
        have zc := hT.cost_bound z4
        have zr := hT.R_bound z.1 z.2.1
        have hread : upd2 (T.F (r + 1) (s + 1)) r s (minL (vals.take k)) z.1 z.2.1 = T.R z.1 z.2.1 := by
          unfold upd2 TD.F
          have q1 : z.1 ≤ a.length := z1
          have q2 : z.2.1 ≤ b.length := z2
          rw [if_neg (by omega), if_pos ⟨by omega, z1, z2⟩]
        have hcell : ∀ {L : List Nat} {ρ : Env} {blks : List Blk} {m' : Mem} {f : Nat → Nat → Int}, m' tb = some (.cells (gcells T.hd .i64 f).toArray 148 (0, 0)) → Good c L m' → Cells (vw c L ρ blks m') (some ⟨tb, 0, none⟩) (gcells T.hd .i64 f) := fun hm g k x hx => ⟨tb, 0, rfl, by rw [vw_mem g hm, Nat.zero_add]; simpa using hx⟩
        have hvk : vals[k]? = some (z.2.2 + T.R z.1 z.2.1) := by
          show ((T.steps r s).map fun x => x.2.2 + T.R x.1 x.2.1)[k]? = _
          rw [List.getElem?_map, hz]; rfl
        have hvl : k < vals.length := (List.getElem?_eq_some_iff.1 hvk).1
        have hvs : vals.take (k + 1) = vals.take k ++ [z.2.2 + T.R z.1 z.2.1] := by
          rw [List.take_succ_eq_append_getElem hvl, (List.getElem?_eq_some_iff.1 hvk).2]
        have eadd : ar .add .i64 z.2.2 (T.R z.1 z.2.1) = z.2.2 + T.R z.1 z.2.1 := addI (by omega) (by omega)
        refine .alloc fun b6 => .chk rfl (.chk rfl (.loadG tb T.hd _ z.1 z.2.1 rfl (Nat.lt_succ_of_le (Nat.le_trans z1 hT.la)) (Nat.lt_succ_of_le (Nat.le_trans z2 hT.lb)) rfl (fun g => hcell hm' g) ?_))
        rw [hread]
        have nextbi : ∀ o, ((bi = b3 ∧ x = (r : Int)) ∨ (m'.upd tb o) bi = some (box 3 (.int .i64 (r : Int)))) := fun o => hbi'.imp id fun h => by rw [Mem.upd_other _ _ (box_ne h hm')]; exact h
        have nextbj : ∀ o, ((bj = b4 ∧ y = (s : Int)) ∨ (m'.upd tb o) bj = some (box 3 (.int .i64 (s : Int)))) := fun o => hbj'.imp id fun h => by rw [Mem.upd_other _ _ (box_ne h hm')]; exact h
        refine .env (by (try simp only [liE, lO, lU, snd, aN]); rfl) (.ite (fun h4 => ?_) (fun h4 => ?_)) <;> ((try simp only [evE, liE, lO, lU, snd] at h4); (try simp only [cmE] at h4))
        · have hk0 : k = 0 := by simpa using h4
          subst hk0
          refine .loadV (.int .i64 (r : Int)) bi 3 3 rfl (hbi'.imp (fun ⟨e1, e2⟩ => ⟨_, by rw [e1]; rfl, rfl, by rw [← e2]; rfl⟩) id) (.loadV (.int .i64 (s : Int)) bj 3 4 rfl (hbj'.imp (fun ⟨e1, e2⟩ => ⟨_, by rw [e1]; rfl, rfl, by rw [← e2]; rfl⟩) id) (.chk rfl (.chk rfl ?_)))
          refine .storeG tb 148 T.hd _ r s (minL (vals.take (0 + 1))) rfl (by omega) (by omega) rfl hm' ?_ (.leave (.inl ⟨rfl, rfl, ?_, nextbi _, nextbj _⟩))
          · rw [hvs]; exact eadd
          · rw [Mem.upd_same, upd2_upd2]
        · have hk0 : k ≠ 0 := by simpa using h4
          refine .loadV (.int .i64 (r : Int)) bi 3 3 rfl (hbi'.imp (fun ⟨e1, e2⟩ => ⟨_, by rw [e1]; rfl, rfl, by rw [← e2]; rfl⟩) id) (.loadV (.int .i64 (s : Int)) bj 3 4 rfl (hbj'.imp (fun ⟨e1, e2⟩ => ⟨_, by rw [e1]; rfl, rfl, by rw [← e2]; rfl⟩) id) (.chk rfl (.chk rfl ?_)))
          refine .loadG tb T.hd _ r s rfl (by omega) (by omega) rfl (fun g => hcell hm' g) ?_
          rw [show upd2 (T.F (r + 1) (s + 1)) r s (minL (vals.take k)) r s = minL (vals.take k) from if_pos ⟨rfl, rfl⟩]
          have hne : vals.take k ≠ [] := fun e => by
            have := congrArg List.length e
            rw [List.length_take, List.length_nil] at this
            omega
          have hmin := minL_snoc (x := z.2.2 + T.R z.1 z.2.1) hne
          rw [← hvs] at hmin
          have hb0 : ((k == 0) : Bool) = ((k + 1 == 0) : Bool) := by simp [hk0]
          refine .env (by (try simp only [liE, lO, lU, snd, aN]); rfl) (.ite (fun h5 => ?_) (fun h5 => .leave (.inl ⟨rfl, ?_, ?_, hbi', hbj'⟩)))
          · replace h5 : decide (ar .add .i64 z.2.2 (T.R z.1 z.2.1) < minL (vals.take k)) = true := h5
            rw [eadd, decide_eq_true_eq] at h5
            refine .loadV (.int .i64 (r : Int)) bi 3 3 rfl (hbi'.imp (fun ⟨e1, e2⟩ => ⟨_, by rw [e1]; rfl, rfl, by rw [← e2]; rfl⟩) id) (.loadV (.int .i64 (s : Int)) bj 3 4 rfl (hbj'.imp (fun ⟨e1, e2⟩ => ⟨_, by rw [e1]; rfl, rfl, by rw [← e2]; rfl⟩) id) (.chk rfl (.chk rfl ?_)))
            refine .storeG tb 148 T.hd _ r s (minL (vals.take (k + 1))) rfl (by omega) (by omega) rfl hm' ?_ (.leave (.inl ⟨rfl, ?_, ?_, nextbi _, nextbj _⟩))
            · show ar .add .i64 z.2.2 (T.R z.1 z.2.1) = _
              rw [hmin, eadd]; omega
            · (simp only [evE, liE, lO, lU, snd, Sh.uss, Sh.us, atAddr, map_add0, List.append_nil]); simp
            · rw [Mem.upd_same, upd2_upd2]
          · show [U.b (k == 0)] = _
            rw [hb0]
          · replace h5 : decide (ar .add .i64 z.2.2 (T.R z.1 z.2.1) < minL (vals.take k)) = false := h5
            rw [eadd, decide_eq_false_iff_not] at h5
            rw [hmin, show min (minL (vals.take k)) (z.2.2 + T.R z.1 z.2.1) = minL (vals.take k) by omega]
            exact hm'
      · rintro us m' _ ⟨rfl, hm', hbi', hbj'⟩
        have hfull : vals.take ((T.steps r s).map stepU).length = vals := by
          rw [List.take_of_length_le (by simp [vals])]
        rw [hfull, hvals, TD.F_next T r s hr hs] at hm'
        refine .loadV (.int .i64 (s : Int)) bj 3 4 rfl (hbj'.imp (fun ⟨e1, e2⟩ => ⟨_, by rw [e1]; rfl, rfl, by rw [← e2]; rfl⟩) id) (.alloc fun b6 => .againL rfl fun g => ⟨s, by omega, s, b6, y, ?_, rfl, by omega, ?_, ?_, ?_⟩)
        · (simp only [evE, liE, lO, lU, snd, Sh.uss, Sh.us, atAddr, map_add0, List.append_nil]); rfl
        · rw [blkMem_not fun h => by rw [(g.blk tb (List.drop_subset _ _ h)).1] at hm'; cases hm']
          exact hm'
        · refine hbi'.imp id fun h => ?_
          rw [blkMem_not fun h2 => by rw [(g.blk bi (List.drop_subset _ _ h2)).1] at h; cases h]
          exact h
        · refine .inr ?_
          have hnd := g.nd
          rw [blkMem_at (j := 1) (b := b6) (List.Nodup.sublist (List.drop_sublist _ _) g.nd) rfl rfl]
          simp only [SV.dens, SV.den, IT.eval, box]
          have : ar .sub .i64 (s : Int) 1 = (s : Int) - 1 := subI (by omega) (by omega)
          simp only [Env.int]
          first | (rw [← this]; rfl) | skip
    · have hj0 : j = 0 := by omega
      subst hj0
      refine .loadV (.int .i64 (r : Int)) bi 3 3 rfl (hbi.imp (fun ⟨e1, e2⟩ => ⟨_, by rw [e1]; rfl, rfl, by rw [← e2]; rfl⟩) id) (.alloc fun b5 => .againL rfl fun g => ⟨r, by omega, r, b5, x, ?_, rfl, by omega, ?_, ?_⟩)
      · (simp only [evE, liE, lO, lU, snd, Sh.uss, Sh.us, atAddr, map_add0, List.append_nil]); rfl
      · rw [TD.F_row T r (b.length + 1) (Nat.lt_succ_self _)] at hm
        rw [blkMem_not fun h => by rw [(g.blk tb (List.drop_subset _ _ h)).1] at hm; cases hm]
        exact hm
      · refine .inr ?_
        rw [blkMem_at (j := 1) (b := b5) (List.Nodup.sublist (List.drop_sublist _ _) g.nd) rfl rfl]
        simp only [SV.dens, SV.den, IT.eval, box]
        have : ar .sub .i64 (r : Int) 1 = (r : Int) - 1 := subI (by omega) (by omega)
        simp only [Env.int]
        first | (rw [← this]; rfl) | skip
  · have hi0 : i = 0 := by omega
    subst hi0
    refine .ret rfl ⟨fun h => absurd h1 h, fun _ => ⟨tb, hT, rfl, ?_⟩⟩
    rw [hm]
    have : T.F 0 (b.length + 1) = T.F 0 0 := by
      funext i' j'
      unfold TD.F
      by_cases h : (0 ≤ i' ∨ (i' + 1 = 0 ∧ b.length + 1 ≤ j')) ∧ i' ≤ T.A.w.length ∧ j' ≤ T.B.w.length
      · rw [if_pos h, if_pos (by omega)]
      · rw [if_neg h, if_neg (by omega)]
    rw [this]
end Go.Proofs.YthabfpagilbplaaDoor
/- The cheapest steps, as edit goes over them; edit.Dist. -/
namespace Go.Sy
open Go Go.RowKit
theorem filter_at {α : Type} (p : α → Bool) (l : List α) (k : Nat) (hk : k < l.length) (hp : p l[k] = true) : (l.filter p)[((l.take k).filter p).length]? = some l[k] := by
  have h : l = l.take k ++ l[k] :: l.drop (k + 1) := by rw [List.getElem_cons_drop, List.take_append_drop]
  conv => lhs; rw [h]
  rw [List.filter_append, List.filter_cons, if_pos hp]
  have : ((l.take k ++ l[k] :: l.drop (k + 1)).take k) = l.take k := by
    rw [List.take_append_of_le_length (by simp; omega), List.take_take, Nat.min_self]
  rw [this, List.getElem?_append_right (Nat.le_refl _), Nat.sub_self]; rfl
theorem TD.F_all (T : TD) {i j : Nat} (hi : i ≤ T.A.w.length) (hj : j ≤ T.B.w.length) : T.F 0 0 i j = T.R i j := by
  unfold TD.F; rw [if_pos ⟨by omega, hi, hj⟩]
end Go.Sy
namespace Go.Proofs.YthabfpagilbplaaDoor
open Go Go.Sy Go.RowKit
def distE (ws : List Int) (gap : Int) (a b : List Snd) : Int × Int := if checkE ws gap [a, b] ≠ 0 then (0, checkE ws gap [a, b]) else (rst (fun x y => (distC x y ws gap).1) gap a b, 0)
theorem c_editDist (A B : WD) (pc : Option Addr) (cc : Nat) (ws : List Int) (gap : Int) (ha : Wok A.w) (hb : Wok B.w) :
    RetP Tryd.prog n_edit_Dist [A.v, B.v, costs pc ws.length cc gap] (fun R => WordAt R A.p A.w ∧ WordAt R B.p B.w ∧ CostsAt R pc ws ∧ TabOk R) (.tuple #[.int .i64 (distE ws gap A.w B.w).1, .int .i64 (distE ws gap A.w B.w).2]) := by
  refine Fn.of S_edit_Dist mx [.p A.p, .i A.w.length, .i A.cap, .p B.p, .i B.w.length, .i B.cap, .p pc, .i ws.length, .i cc, .i gap] rfl rfl fun c hp => .alloc fun b0 => ?_
  refine .callM (c_newTable A B pc cc ws gap ha hb) rfl rfl (fun g => ⟨hp.1.mono g.R, hp.2.1.mono g.R, hp.2.2.1.mono g.R, hp.2.2.2.mono g.R⟩) ?_
  rintro v mq hfr ⟨hv1, hv2⟩
  by_cases he : checkE ws gap [A.w, B.w] = 0
  · obtain ⟨tb, hT, rfl, hm⟩ := hv2 he
    refine ⟨[.p (some ⟨tb, 0, none⟩), .i 0], uOk_of rfl, rfl, .no rfl (.chk rfl (.chk rfl (.chk rfl (.chk rfl ?_))))⟩
    have hread : (gcells (TD.hd ⟨tb, A, B, pc, cc, ws, gap⟩) .i64 (TD.F ⟨tb, A, B, pc, cc, ws, gap⟩ 0 0))[4]? = some (.int .i64 (rst (fun x y => (distC x y ws gap).1) gap A.w B.w)) := by
      have := gcells_at (TD.hd ⟨tb, A, B, pc, cc, ws, gap⟩) .i64 (TD.F ⟨tb, A, B, pc, cc, ws, gap⟩ 0 0) 0 0 (by omega) (by omega)
      rw [TD.F_all _ (Nat.zero_le _) (Nat.zero_le _)] at this
      exact this
    refine .load1 (.int .i64 (rst (fun x y => (distC x y ws gap).1) gap A.w B.w)) (some ⟨tb, 0, none⟩) _ 4 rfl rfl (fun g k x hx => ⟨tb, 0, rfl, by rw [vw_mem g (show (Mem.emp.join mq) tb = _ from hm), Nat.zero_add]; simpa using hx⟩) hread (.ret rfl ?_)
    unfold distE
    rw [if_neg (by simp [he])]; rfl
  · obtain rfl := hv1 he
    refine ⟨[.p none, .i (checkE ws gap [A.w, B.w])], uOk_of rfl, rfl, .yes (by ((try simp only [evE, liE, lO, lU, snd]); (try simp only [cmE])); simp [he]) (.ret rfl ?_)⟩
    unfold distE
    rw [if_pos he]; rfl
end Go.Proofs.YthabfpagilbplaaDoor
/- edit.Score, edit.Near and edit.Ratio. -/
namespace Go.Sy
open Go Go.RowKit
/-! Pairs of numbers in cells. -/
section
variable {P : Program} {c : Cx} {L : List Nat} {ρ : Env} {blks : List Blk} {m : Mem} {R : Value → HW → Prop} {Dn : Nat → List U → HW → Prop} {A : List (List U → HW → Prop)}
end
def dC (ws : List Int) (gap : Int) : Snd → Snd → Int := fun x y => (distC x y ws gap).1
theorem checkE_two {ws : List Int} {gap : Int} {a b : List Snd} (h : checkE ws gap [a, b] = 0) : checkC ws gap = 0 ∧ (a.length ≤ 32 ∧ ∀ s ∈ a, valid s = true) ∧ b.length ≤ 32 ∧ ∀ s ∈ b, valid s = true := by
  unfold checkE at h
  split at h
  · omega
  · have := checkL_two h
    exact ⟨by omega, checkW_zero this.1, checkW_zero this.2⟩
section
variable {d : Snd → Snd → Int} {g : Int} {a b : List Snd} {i j : Nat} {x : Int × Int}
end
/-! The nearest. -/
theorem checkL_zero {l : List (List Snd)} (h : checkL l = 0) : ∀ x ∈ l, checkW x = 0 := by
  induction l with
  | nil => simp
  | cons w l ih =>
    unfold checkL at h
    split at h
    · omega
    · intro x hx
      rcases List.mem_cons.1 hx with rfl | hx
      · omega
      · exact ih h x hx
theorem checkE_mk {ws : List Int} {gap : Int} {l : List (List Snd)} (h : checkC ws gap = 0) (hl : ∀ x ∈ l, checkW x = 0) : checkE ws gap l = 0 := by
  unfold checkE
  rw [if_neg (by simp [h])]
  induction l with
  | nil => rfl
  | cons w l ih =>
    unfold checkL
    rw [if_neg (by simp [hl w (by simp)])]
    exact ih fun x hx => hl x (by simp [hx])
/-! Lowest terms. -/
def gcdI (n d : Int) : Int := (Nat.gcd n.toNat d.toNat : Nat)
def lowest (n d : Int) : Int × Int := (n.tdiv (gcdI n d), d.tdiv (gcdI n d))
where distE0 (ws : List Int) (gap : Int) (a b : List Snd) : Int × Int := if checkE ws gap [a, b] ≠ 0 then (0, checkE ws gap [a, b]) else (rst (dC ws gap) gap a b, 0)
theorem gcdI_step {x y : Int} (hx : 0 ≤ x) (hy : 0 < y) : gcdI y (x.tmod y) = gcdI x y := by
  unfold gcdI
  rw [Int.tmod_eq_emod_of_nonneg hx]
  have : (x % y).toNat = x.toNat % y.toNat := by
    obtain ⟨n, rfl⟩ := Int.eq_ofNat_of_zero_le hx
    obtain ⟨k, rfl⟩ := Int.eq_ofNat_of_zero_le (Int.le_of_lt hy)
    exact (congrArg Int.toNat (Int.natCast_emod n k).symm).trans (Int.toNat_natCast _)
  rw [this, Nat.gcd_comm y.toNat, ← Nat.gcd_rec y.toNat x.toNat, Nat.gcd_comm]
theorem gcdI_zero {x : Int} (hx : 0 ≤ x) : gcdI x 0 = x := by unfold gcdI; simp; omega
end Go.Sy
namespace Go.Proofs.YthabfpagilbplaaDoor
open Go Go.Sy Go.RowKit
theorem gcd_pos {n d : Int} (hd : 0 < d) : 0 < gcdI n d := by
  unfold gcdI
  have := Nat.gcd_pos_of_pos_right n.toNat (n := d.toNat) (by omega)
  omega
end Go.Proofs.YthabfpagilbplaaDoor
/- edit.Ways. -/
namespace Go.Sy
open Go Go.RowKit
section
variable {n m : Nat} {R : Nat → Nat → Int}
end
end Go.Sy
namespace Go.Proofs.YthabfpagilbplaaDoor
open Go Go.Sy Go.RowKit
end Go.Proofs.YthabfpagilbplaaDoor
/- edit.Align. -/
namespace Go.Sy
open Go Go.RowKit
end Go.Sy
namespace Go.Proofs.YthabfpagilbplaaDoor
open Go Go.Sy Go.RowKit
end Go.Proofs.YthabfpagilbplaaDoor
/- The small functions of the laws of chapter 17; 'works'. -/
namespace Go.Sy
open Go Go.RowKit
theorem Good.cells {c : Cx} {L : List Nat} {ρ : Env} {blks : List Blk} {m : Mem} (g : Good c L m) {j b o : Nat} {k : Blk} {xs : List Value} (h1 : L[j]? = some b) (h2 : blks[j]? = some k) (h : ((SV.dens L ρ k.cells).drop o).take xs.length = xs) : Cells (vw c L ρ blks m) (some ⟨b, o, none⟩) xs := fun i x hx => by
  refine ⟨b, o, rfl, ?_⟩
  rw [g.at h1 h2]
  rw [← h, List.getElem?_take] at hx
  split at hx
  · rw [List.getElem?_drop] at hx; exact hx
  · cases hx
theorem cells_of_mem {c : Cx} {L : List Nat} {ρ : Env} {blks : List Blk} {m : Mem} (g : Good c L m) {b : Nat} {xs : List Value} {e : TypeId} (h : m b = some (.cells xs.toArray e (0, 0))) : Cells (vw c L ρ blks m) (some ⟨b, 0, none⟩) xs := fun i x hx => ⟨b, 0, rfl, by rw [vw_mem g h, Nat.zero_add]; simpa using hx⟩
end Go.Sy
namespace Go.Proofs.YthabfpagilbplaaDoor
open Go Go.Sy Go.RowKit
end Go.Proofs.YthabfpagilbplaaDoor
/- 'works' of the laws of chapter 01 answers true; 'Made'. -/
namespace Go.Proofs.YthabfpagilbplaaDoor
open Go Go.Sy Go.RowKit
end Go.Proofs.YthabfpagilbplaaDoor
/- The words and costs that the laws of chapter 17 make; distances of valid sounds as a metric. -/
namespace Go.Sy
open Go Go.RowKit
theorem Row.joinL {m mq : Mem} {e : TypeId} {size : Nat} {q : Option Addr} {cap n : Nat} {xs : List Value} (h : Row m e size q cap n xs) : Row (m.join mq) e size q cap n xs := h.keep fun g _ hg' => by cases h : m g with | none => exact absurd h hg' | some o => exact Mem.join_at h
/-! Distances without a look at what is valid. -/
def d0 (ws : List Int) : Snd → Snd → Int := fun x y => sumW ((x.1 ^^^ y.1) ||| (x.2 ^^^ y.2)) ws
theorem sumW_none (ws : List Int) : sumW 0 ws = 0 := by
  induction ws with
  | nil => rfl
  | cons w ws ih => simp [sumW, ih]
structure Vok (a : List Snd) : Prop where
  len : a.length ≤ 32
  val : ∀ s ∈ a, valid s = true
/-! Words and costs made of small numbers. -/
end Go.Sy
namespace Go.Proofs.YthabfpagilbplaaDoor
open Go Go.Sy Go.RowKit
end Go.Proofs.YthabfpagilbplaaDoor
/- EditMetric: what the law's code answers. -/
namespace Go.Sy
open Go Go.RowKit
end Go.Sy
namespace Go.Proofs.YthabfpagilbplaaDoor
open Go Go.Sy Go.RowKit
end Go.Proofs.YthabfpagilbplaaDoor
/- EditSubsequences: what the law's code answers. -/
namespace Go.Sy
open Go Go.RowKit
theorem Row.apart {m : Mem} {e e' : TypeId} {s s' : Nat} {q q' : Option Addr} {cap cap' n n' : Nat} {xs xs' : List Value} (h : Row m e s q cap n xs) (h' : Row m e' s' q' cap' n' xs') (he : e ≠ e') (g : Nat) (hg : q = some ⟨g, 0, none⟩) : q' ≠ some ⟨g, 0, none⟩ := fun hg' => by
  rcases h.2 with ⟨h1, _⟩ | ⟨g1, c1, h1, h2, _⟩
  · rw [h1] at hg; cases hg
  · rcases h'.2 with ⟨k1, _⟩ | ⟨g2, c2, k1, k2, _⟩
    · rw [k1] at hg'; cases hg'
    · rw [h1] at hg; cases hg
      rw [k1] at hg'; cases hg'
      rw [h2] at k2
      simp only [Option.some.injEq, Obj.cells.injEq] at k2
      exact he k2.2.1
theorem Row.keepA {m m' : Mem} {e e' : TypeId} {s s' : Nat} {q q' : Option Addr} {cap cap' n n' kx : Nat} {xs xs' : List Value} (h : Row m e s q cap n xs) (h' : Row m e' s' q' cap' n' xs') (he : e ≠ e') (hk : ∀ b, ((∃ o, q' = some ⟨b, o, none⟩) → cap' < n' + kx) → m b ≠ none → m' b = m b) : Row m' e s q cap n xs :=
  h.keep fun g hg hg' => hk g (fun ⟨o, ho⟩ => by
    exfalso
    rcases h'.2 with ⟨k1, _⟩ | ⟨g2, _, k1, _⟩
    · rw [k1] at ho; cases ho
    · rw [k1] at ho; cases ho
      exact h.apart h' he g hg k1) hg'
end Go.Sy
namespace Go.Proofs.YthabfpagilbplaaDoor
open Go Go.Sy Go.RowKit
end Go.Proofs.YthabfpagilbplaaDoor
/- EditGrows: what the law's code answers. -/
namespace Go.Proofs.YthabfpagilbplaaDoor
open Go Go.Sy Go.RowKit
end Go.Proofs.YthabfpagilbplaaDoor
/- EditScores: the reference's Score, and what the law's code answers. -/
namespace Go.Proofs.YthabfpagilbplaaDoor
open Go Go.Sy Go.RowKit
end Go.Proofs.YthabfpagilbplaaDoor
/- EditAligned: what the law's code answers. -/
namespace Go.Proofs.YthabfpagilbplaaDoor
open Go Go.Sy Go.RowKit
theorem dC_comm (ws : List Int) (gap : Int) (x y : Snd) : dC ws gap x y = dC ws gap y x := by
  have e : diffS x y = diffS y x := by
    unfold diffS
    rw [Bool.and_comm, Nat.xor_comm, Nat.xor_comm x.2]
  unfold dC distC
  rw [e]
  cases valid x <;> cases valid y <;> simp
end Go.Proofs.YthabfpagilbplaaDoor
/- edit.Matrix. -/
namespace Go.Sy
open Go Go.RowKit
/-! A square of numbers in one row. -/
end Go.Sy
namespace Go.Proofs.YthabfpagilbplaaDoor
open Go Go.Sy Go.RowKit
end Go.Proofs.YthabfpagilbplaaDoor
/- Alignments: the first of the smallest cost has that cost; none costs less; what is left without its first pair is none. -/
namespace Go.Sy
open Go Go.RowKit
section
variable {d : Snd → Snd → Int} {g : Int} {a b : List Snd} {i j : Nat}
end
end Go.Sy
/- A table whose rows are slices of their own: the outer row of slices, and for each an inner row in a block of its own. -/
namespace Go.Sy
open Go Go.RowKit
structure RD where
  p : Option Addr
  cap : Nat
  v : List Int
def RD.s (r : RD) : Value := slv r.p r.v.length r.cap
structure Tab (m : Mem) (eo ei : TypeId) (kd : IntKind) (q : Option Addr) (cap : Nat) (rs : List RD) : Prop where
  out : Row m eo 1 q cap rs.length (rs.map RD.s)
  inn : ∀ r ∈ rs, Row m ei 1 r.p r.cap r.v.length (r.v.map (.int kd))
  apart : ∀ (i j : Nat) (hi : i < rs.length) (hj : j < rs.length) (g : Nat), i ≠ j → rs[i].p = some ⟨g, 0, none⟩ → rs[j].p ≠ some ⟨g, 0, none⟩
  ne : eo ≠ ei
theorem Tab.keep {m m' : Mem} {eo ei : TypeId} {kd : IntKind} {q : Option Addr} {cap : Nat} {rs : List RD} (h : Tab m eo ei kd q cap rs) (hk : ∀ b, m b ≠ none → m' b = m b) : Tab m' eo ei kd q cap rs :=
  ⟨h.out.keep fun g _ hg => hk g hg, fun r hr => (h.inn r hr).keep fun g _ hg => hk g hg, h.apart, h.ne⟩
theorem DenM.loadRow {P : Program} {c : Cx} {L : List Nat} {ρ : Env} {blks : List Blk} {m : Mem} {R : Value → HW → Prop} {Dn : Nat → List U → HW → Prop} {A : List (List U → HW → Prop)} {i : Nat} {I len : IT} {k : Tree} {eo ei : TypeId} {kd : IntKind} {q : Option Addr} {cap : Nat} {rs : List RD}
    (hT : Tab m eo ei kd q cap rs) (x : Nat) (r : RD) (hr : rs[x]? = some r) (hk : DenM P R Dn k L (ρ ++ [.p r.p, .i r.v.length, .i r.cap]) c m A) (hp : ρ.ptr i = q) (hI : I.eval ρ = (x : Int)) (hn : len.eval ρ = (rs.length : Int)) :
    DenM P R Dn (.chk (.pick (.cmp .geq I (.lit 0)) (.pick (.cmp .lss I len) (.some i) (.lit false)) (.lit false)) (.load i (.off I 1 (.lit 0)) [.sl] blks k)) L ρ c m A := by
  obtain ⟨hx, rfl⟩ := List.getElem?_eq_some_iff.1 hr
  exact .loadSl (rs.map RD.s) x rs.length rs[x].p rs[x].v.length rs[x].cap hx (by simp [hx, RD.s]) (fun g => by rw [hp]; exact hT.out.reads g) hk hI hn
end Go.Sy
/- The smallest cost from two places on, by the three next places. -/
namespace Go.Sy
section
variable {d : Snd → Snd → Int} {g : Int} {a b : List Snd} {i j : Nat}
end
end Go.Sy
/- The reference's table of rests. -/
namespace Go.Sy
open Go Go.RowKit
theorem RA_bound {ws : List Int} {gap : Int} {a b : List Snd} (hc : checkC ws gap = 0) (la : a.length ≤ 32) (lb : b.length ≤ 32) (i j : Nat) : 0 ≤ RA (dC ws gap) gap a b i j ∧ RA (dC ws gap) gap a b i j ≤ 1073741824 * 64 := by
  have hg := (checkC_zero hc).2
  refine ⟨rst_pos hg.1 (fun x y => (distC_pos hc).1) _ _, ?_⟩
  have h1 := rst_le (d := dC ws gap) (g := gap) (a.drop i) (b.drop j)
  have h2 : gap * (((a.drop i).length + (b.drop j).length : Nat) : Int) ≤ 1073741824 * 64 := by
    refine Int.le_trans (Int.mul_le_mul_of_nonneg_right hg.2.1 (by omega)) ?_
    simp; omega
  exact Int.le_trans h1 h2
end Go.Sy
namespace Go.Proofs.YthabfpagilbplaaDoor
open Go Go.Sy Go.RowKit
end Go.Proofs.YthabfpagilbplaaDoor
/- The reference's Dist, Ratio, Near and Matrix. -/
namespace Go.Sy
open Go Go.RowKit
section
variable {P : Program} {c : Cx} {L : List Nat} {ρ : Env} {blks : List Blk} {m : Mem} {R : Value → HW → Prop} {Dn : Nat → List U → HW → Prop} {A : List (List U → HW → Prop)}
end
theorem dC_self {ws : List Int} {gap : Int} (x : Snd) : dC ws gap x x = 0 := by
  unfold dC distC
  split
  · rfl
  · split
    · rfl
    · simp only
      rw [show diffS x x = 0 by unfold diffS; simp]
      exact sumW_none ws
end Go.Sy
namespace Go.Proofs.YthabfpagilbplaaDoor
open Go Go.Sy Go.RowKit
section
variable {c : Cx} {L : List Nat} {ρ : Env} {blks : List Blk} {m : Mem} {R : Value → HW → Prop} {Dn : Nat → List U → HW → Prop} {A : List (List U → HW → Prop)}
end
theorem checkE_pair {ws : List Int} {gap : Int} {a b : List Snd} (hc : checkC ws gap = 0) (ha : checkW a = 0) (hb : checkW b = 0) : checkE ws gap [a, b] = 0 := checkE_mk hc fun x hx => by
  simp only [List.mem_cons, List.not_mem_nil, or_false] at hx
  rcases hx with rfl | rfl
  · exact ha
  · exact hb
end Go.Proofs.YthabfpagilbplaaDoor
