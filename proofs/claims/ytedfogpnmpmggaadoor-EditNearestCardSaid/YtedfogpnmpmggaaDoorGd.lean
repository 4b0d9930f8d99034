/- The cheapest steps, as edit goes over them; edit.Dist. -/
import Derived.Test.YtedfogpnmpmggaaDoorGc
set_option linter.unusedSimpArgs false
set_option linter.unusedVariables false
namespace Go.Sy
open Go Go.RowKit
def TD.pc? (T : TD) (i j : Nat) : Stp → Bool := fun x => x.2.2 + T.R x.1 x.2.1 == T.R i j
def TD.cheap (T : TD) (i j : Nat) : List Stp := cheapA T.d T.gap T.A.w T.B.w i j
theorem TD.cheap_eq (T : TD) (i j : Nat) : T.cheap i j = (T.steps i j).filter (T.pc? i j) := rfl
theorem filter_take {α : Type} (p : α → Bool) (l : List α) (k : Nat) (hk : k < l.length) : ((l.take (k + 1)).filter p) = if p l[k] = true then (l.take k).filter p ++ [l[k]] else (l.take k).filter p := by
  rw [List.take_succ_eq_append_getElem hk, List.filter_append, List.filter_cons, List.filter_nil]
  split <;> simp
theorem filter_at {α : Type} (p : α → Bool) (l : List α) (k : Nat) (hk : k < l.length) (hp : p l[k] = true) : (l.filter p)[((l.take k).filter p).length]? = some l[k] := by
  have h : l = l.take k ++ l[k] :: l.drop (k + 1) := by rw [List.getElem_cons_drop, List.take_append_drop]
  conv => lhs; rw [h]
  rw [List.filter_append, List.filter_cons, if_pos hp]
  have : ((l.take k ++ l[k] :: l.drop (k + 1)).take k) = l.take k := by
    rw [List.take_append_of_le_length (by simp; omega), List.take_take, Nat.min_self]
  rw [this, List.getElem?_append_right (Nat.le_refl _), Nat.sub_self]; rfl
theorem TD.F_all (T : TD) {i j : Nat} (hi : i ≤ T.A.w.length) (hj : j ≤ T.B.w.length) : T.F 0 0 i j = T.R i j := by
  unfold TD.F; rw [if_pos ⟨by omega, hi, hj⟩]
end Go.Sy
namespace Go.Proofs.YtedfogpnmpmggaaDoor
open Go Go.Sy Go.RowKit
def TD.full (T : TD) (V : Mv) : Prop := TD.at T V ∧ Cells V (some ⟨T.tb, 0, none⟩) (gcells T.hd .i64 (T.F 0 0))
theorem TD.full.mono {T : TD} {V V' : Mv} (h : TD.full T V) (hle : V.le V') : TD.full T V' := ⟨TD.at.mono h.1 hle, h.2.mono hle⟩
/-- How the world reads for the cheapest steps. -/
def TD.SF (T : TD) (c : Cx) : Mv := fun b o => if b = T.tb then (gcells T.hd .i64 (T.F 0 0))[o]? else c.R b o
theorem TD.SF_full {T : TD} {c : Cx} (hn : ¬ c.hb.own T.tb) (ha : WordAt c.R T.A.p T.A.w) (hb : WordAt c.R T.B.p T.B.w) (hc : CostsAt c.R T.pc T.ws) (ht : TabOk c.R) : TD.full T (TD.SF T c) := by
  have hle : c.R.le (TD.SF T c) := fun b o v h => by
    unfold TD.SF
    rw [if_neg (fun e : b = T.tb => hn (e ▸ c.own b o v h))]; exact h
  have hg : Cells (TD.SF T c) (some ⟨T.tb, 0, none⟩) (gcells T.hd .i64 (T.F 0 0)) := fun i x hx => ⟨T.tb, 0, rfl, by unfold TD.SF; rw [if_pos rfl, Nat.zero_add]; exact hx⟩
  exact ⟨⟨fun i x hx => hg i x (by rw [gcells_hd _ _ _ _ (List.getElem?_eq_some_iff.1 hx).1]; exact hx), ha.mono hle, hb.mono hle, hc.mono hle, ht.mono hle⟩, hg⟩
theorem TD.SF_le {T : TD} {c : Cx} {e : TypeId} {L : List Nat} {ρ : Env} {blks : List Blk} {m : Mem} {w : World} (hm : m T.tb = some (.cells (gcells T.hd .i64 (T.F 0 0)).toArray e (0, 0))) (hw : Wd L ρ blks (c.hw m) w) : (TD.SF T c).le (Mv.of w) := fun b o v h => by
  unfold TD.SF at h
  split at h
  · rename_i e'
    subst e'
    show w.cell? ⟨T.tb, o, none⟩ = _
    have := hw.hold.2 _ _ hm
    simp only [World.cell?, this]
    simp only [Option.isSome_none, Bool.false_eq_true, if_false, List.getElem?_toArray]
    exact h
  · exact c.ok w b o v hw.hold.1 h
theorem it_cheapest (T : TD) (hT : T.ok) (i j : Nat) (hi : i ≤ T.A.w.length) (hj : j ≤ T.B.w.length) (b0 b1 b2 : Nat) (h01 : b0 ≠ b1) (h02 : b0 ≠ b2) (h12 : b1 ≠ b2) (S : Mv) (hS : TD.full T S) :
    Iter Tryd.prog n___edit_table__cheapest_1 #[.pointer (some ⟨b0, 0, none⟩), .pointer (some ⟨b1, 0, none⟩), .pointer (some ⟨b2, 0, none⟩)] (fun w => S.le (Mv.of w)) (HW.mem (box3 b0 b1 b2 T.tb i j)) ((T.cheap i j).map fun x => [stepV x]) := by
  refine Iter.of S___edit_table__cheapest_1 mx [.p (some ⟨b0, 0, none⟩), .p (some ⟨b1, 0, none⟩), .p (some ⟨b2, 0, none⟩)] (fun yv => rfl) (fun yv h => by simp [Sh.eats, Sh.eat, eatV, eatP, h]) ?_
  intro yv J E hyv hy hpre h hw hJ hdj
  have hA : ∀ {hX : HW} (hw : ∃ w, hX.H w) (q : Nat), J q hX → ∀ w, hX.H w → S.le (Mv.of w) := fun hw q hq w h => hpre q _ w hq h
  have b0e : box3 b0 b1 b2 T.tb i j b0 = some (box 73 (.pointer (some ⟨T.tb, 0, none⟩))) := box3_0
  have b1e : box3 b0 b1 b2 T.tb i j b1 = some (box 3 (.int .i64 (i : Int))) := box3_1 h01
  have b2e : box3 b0 b1 b2 T.tb i j b2 = some (box 3 (.int .i64 (j : Int))) := box3_2 h02 h12
  generalize hm : box3 b0 b1 b2 T.tb i j = m at *
  refine .alloc fun ba => .loadB (.pointer (some ⟨T.tb, 0, none⟩)) b0 73 rfl b0e (.loadB (.int .i64 (i : Int)) b1 3 rfl b1e (.loadB (.int .i64 (j : Int)) b2 3 rfl b2e ?_))
  refine .env (by (try simp only [letsOf, letU, snd, List.flatMap_cons, List.flatMap_nil, List.cons_append, List.nil_append, List.append_assoc, List.append_nil]); rfl) (.callM (c_steps T.tb i j) rfl rfl (fun _ => trivial) ?_)
  rintro v mq hfr ⟨c0, c1, c2, rfl, rfl, g01, g02, g12⟩
  refine ⟨[.v _], ⟨_, rfl, rfl⟩, rfl, ?_⟩
  have hmm : (m.join (box3 c0 c1 c2 T.tb i j)).minus (box3 c0 c1 c2 T.tb i j) = m := Mem.join_minus fun b hb => (hfr b hb).1
  let cnt : Nat → Nat := fun k => (((T.steps i j).take k).filter (T.pc? i j)).length
  refine .rangeY n___edit_table__steps_1 _ ((T.steps i j).map stepU) S (box3 c0 c1 c2 T.tb i j) (fun k us m' hX => us = [] ∧ m = m' ∧ J (cnt k) hX) (fun n us m' hX => E hX) rfl (by kernel_rfl) (fun b o hb => ?_) ?_ ?_ ?_ ?_ ?_ ?_ ?_
  · have := hfr b (by rw [hb]; simp)
    unfold Mem.join; rw [this.1]; exact hb
  · intro ux hx
    obtain ⟨z, _, rfl⟩ := List.mem_map.1 hx; rfl
  · have := it_steps T hT i j hi hj c0 c1 c2 g01 g02 g12 S hS.1
    rw [List.map_map]
    exact this
  · exact ⟨rfl, hmm.symm, hJ⟩
  · rintro k us m' hX w ⟨_, _, hq⟩ hwd
    exact hpre _ _ w hq hwd.hold.1
  · rintro k us ux m' hX _ hx ⟨rfl, rfl, hq⟩ hwX
    rw [List.getElem?_map, Option.map_eq_some_iff] at hx
    obtain ⟨z, hz, rfl⟩ := hx
    obtain ⟨hk, hze⟩ := List.getElem?_eq_some_iff.1 hz
    obtain ⟨z1, z2, z3, z4, _⟩ := T.steps_le hi hj (List.mem_of_getElem? hz)
    have zc := hT.cost_bound z4
    have zr := hT.R_bound z.1 z.2.1
    have eadd : ar .add .i64 z.2.2 (T.R z.1 z.2.1) = z.2.2 + T.R z.1 z.2.1 := addI (by omega) (by omega)
    have hft := filter_take (T.pc? i j) (T.steps i j) k hk
    rw [hze] at hft
    have cS : ∀ {hX : HW} {hw : ∃ w, hX.H w} {hS' : ∀ w, hX.H w → S.le (Mv.of w)} {L : List Nat} {ρ : Env} {blks : List Blk}, Good (Cx.inside hX S hw hS') L m → TD.full T (vw (Cx.inside hX S hw hS') L ρ blks m) := fun g => TD.full.mono hS g.R
    refine .alloc fun _ => .loadB (.pointer (some ⟨T.tb, 0, none⟩)) b0 73 rfl b0e (.chk rfl (.chk rfl (.into hwX (hA hwX _ hq) ?_)))
    refine .loadG T.tb T.hd _ z.1 z.2.1 rfl (Nat.lt_succ_of_le (Nat.le_trans z1 hT.la)) (Nat.lt_succ_of_le (Nat.le_trans z2 hT.lb)) rfl (fun g => (cS g).2) ?_
    rw [T.F_all z1 z2]
    refine .loadB (.pointer (some ⟨T.tb, 0, none⟩)) b0 73 rfl b0e (.loadB (.int .i64 (i : Int)) b1 3 rfl b1e (.loadB (.int .i64 (j : Int)) b2 3 rfl b2e (.chk rfl (.chk rfl ?_))))
    refine .loadG T.tb T.hd _ i j rfl (Nat.lt_succ_of_le (Nat.le_trans hi hT.la)) (Nat.lt_succ_of_le (Nat.le_trans hj hT.lb)) rfl (fun g => (cS g).2) ?_
    rw [T.F_all hi hj]
    refine .env (by (try simp only [letsOf, letU, snd, List.flatMap_cons, List.flatMap_nil, List.cons_append, List.nil_append, List.append_assoc, List.append_nil]); rfl) (.ite (fun h4 => ?_) (fun h4 => .leaveY (.inl ⟨rfl, rfl, rfl, ?_⟩)))
    · replace h4 : (ar .add .i64 z.2.2 (T.R z.1 z.2.1) == T.R i j) = true := h4
      rw [eadd] at h4
      have hpz : T.pc? i j z = true := h4
      rw [if_pos hpz] at hft
      have hcn : cnt (k + 1) = cnt k + 1 := by show ((T.steps i j).take (k + 1) |>.filter (T.pc? i j)).length = _; rw [hft, List.length_append]; rfl
      have hfa := filter_at (T.pc? i j) (T.steps i j) k hk (by rw [hze]; exact hpz)
      refine .yield hy (q := cnt k) (x := [stepV z]) hq (by rw [List.getElem?_map, T.cheap_eq, hfa, hze]; rfl) (fun hX' hw' hJ' => .no rfl (.leaveY (.inl ⟨rfl, rfl, rfl, by rw [hcn]; exact hJ'⟩))) (fun hX' hE => .yes rfl (.leaveY (.inr ⟨by decide, hE⟩)))
    · replace h4 : (ar .add .i64 z.2.2 (T.R z.1 z.2.1) == T.R i j) = false := h4
      rw [eadd] at h4
      have hpz : ¬ T.pc? i j z = true := by show ¬ (z.2.2 + T.R z.1 z.2.1 == T.R i j) = true; rw [h4]; simp
      rw [if_neg hpz] at hft
      have hcn : cnt (k + 1) = cnt k := by show ((T.steps i j).take (k + 1) |>.filter (T.pc? i j)).length = _; rw [hft]
      rw [hcn]; exact hq
  · rintro us m' hX _ ⟨rfl, rfl, hq⟩ hwX
    have hc : cnt ((T.steps i j).map stepU).length = ((T.cheap i j).map fun x => [stepV x]).length := by
      show (((T.steps i j).take ((T.steps i j).map stepU).length).filter (T.pc? i j)).length = _
      rw [List.take_of_length_le (by simp), List.length_map, T.cheap_eq]
    rw [hc] at hq
    exact .no rfl (.stop (.inl hq))
  · rintro n us m' hX hn _ hE hwX
    exact .ite (fun _ => .stop (.inr hE)) (fun _ => .stop (.inr hE))
/-- The distance, and the error. -/
def distE (ws : List Int) (gap : Int) (a b : List Snd) : Int × Int := if checkE ws gap [a, b] ≠ 0 then (0, checkE ws gap [a, b]) else (rst (fun x y => (distC x y ws gap).1) gap a b, 0)
theorem c_editDist (A B : WD) (pc : Option Addr) (cc : Nat) (ws : List Int) (gap : Int) (ha : Wok A.w) (hb : Wok B.w) :
    RetP Tryd.prog n_edit_Dist [A.v, B.v, costs pc ws.length cc gap] (fun R => WordAt R A.p A.w ∧ WordAt R B.p B.w ∧ CostsAt R pc ws ∧ TabOk R) (.tuple #[.int .i64 (distE ws gap A.w B.w).1, .int .i64 (distE ws gap A.w B.w).2]) := by
  refine Fn.of S_edit_Dist mx [.p A.p, .i A.w.length, .i A.cap, .p B.p, .i B.w.length, .i B.cap, .p pc, .i ws.length, .i cc, .i gap] rfl rfl fun c hp => .alloc fun b0 => ?_
  refine .callM (c_newTable A B pc cc ws gap ha hb) rfl rfl (fun g => ⟨hp.1.mono g.R, hp.2.1.mono g.R, hp.2.2.1.mono g.R, hp.2.2.2.mono g.R⟩) ?_
  rintro v mq hfr ⟨hv1, hv2⟩
  by_cases he : checkE ws gap [A.w, B.w] = 0
  · obtain ⟨tb, hT, rfl, hm⟩ := hv2 he
    refine ⟨[.p (some ⟨tb, 0, none⟩), .i 0], uOk_of rfl, rfl, .no rfl (.chk rfl (.chk rfl (.chk rfl (.chk rfl ?_))))⟩
    have hread : (gcells (TD.hd ⟨tb, A, B, pc, cc, ws, gap⟩) .i64 (TD.F ⟨tb, A, B, pc, cc, ws, gap⟩ 0 0))[4]? = some (.int .i64 (rst (fun x y => (distC x y ws gap).1) gap A.w B.w)) := by
      have := gcells_at (TD.hd ⟨tb, A, B, pc, cc, ws, gap⟩) .i64 (TD.F ⟨tb, A, B, pc, cc, ws, gap⟩ 0 0) 0 0 (by omega) (by omega)
      rw [TD.F_all _ (Nat.zero_le _) (Nat.zero_le _)] at this
      exact this
    refine .load1 (.int .i64 (rst (fun x y => (distC x y ws gap).1) gap A.w B.w)) (some ⟨tb, 0, none⟩) _ 4 rfl rfl (fun g k x hx => ⟨tb, 0, rfl, by rw [vw_mem g (show (Mem.emp.join mq) tb = _ from hm), Nat.zero_add]; simpa using hx⟩) hread (.ret rfl ?_)
    unfold distE
    rw [if_neg (by simp [he])]; rfl
  · obtain rfl := hv1 he
    refine ⟨[.p none, .i (checkE ws gap [A.w, B.w])], uOk_of rfl, rfl, .yes (by ((try simp only [BT.eval, IT.eval, SV.den, SV.dens, Env.int, Env.bool, Env.val, Env.ptr, letsOf, letU, snd, List.flatMap_cons, List.flatMap_nil, List.cons_append, List.nil_append, List.append_assoc, List.getElem?_cons_zero, List.getElem?_cons_succ]); (try simp only [cm, cond_true, cond_false, pick_or, pick_and, Bool.or_eq_true, Bool.and_eq_true, Bool.or_eq_false_iff, Bool.and_eq_false_iff, Bool.not_eq_true', Bool.not_eq_false', decide_eq_true_eq, decide_eq_false_iff_not, beq_iff_eq, beq_eq_false_iff_ne, bne_iff_ne, bne_eq_false_iff_eq, ge_iff_le, gt_iff_lt, Int.not_lt, Int.not_le])); simp [he]) (.ret rfl ?_)⟩
    unfold distE
    rw [if_pos he]; rfl
end Go.Proofs.YtedfogpnmpmggaaDoor
