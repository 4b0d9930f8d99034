/- Chapter 18: what chapter 19's texts hold that is of use here. -/
import Derived.Test.YtialbhieaipcgaaDoorBc
import Derived.Test.YtialbhieaipcgaaDoorPt
import Derived.Test.YtialbhieaipcgaaDoorTb
import Derived.Test.YtialbhieaipcgaaDoorTd
import Derived.Test.YtialbhieaipcgaaDoorTe
import Derived.Laws.CopyRow
import Derived.Lib.SliceRun
set_option linter.unusedSimpArgs false
set_option linter.unusedVariables false
/- Chapter 18: what chapter 19's texts hold that is of use here. -/
namespace Go.Sy
open Go Go.RowKit
/-- A word as an argument. -/
structure WD.ok (x : WD) : Prop where
  le : x.w.length ≤ x.cap
  nil : x.p = none → x.cap = 0
theorem sl_at (ρ : Env) (L : List Nat) (q : Option Addr) (n cap : Nat) (us : List U) : (Sh.sl.fresh ρ.length).1.den L (ρ ++ (.p q :: .i n :: .i cap :: us)) = slv q n cap := by
  have e0 := getElem_env ρ (.p q :: .i n :: .i cap :: us) 0
  have e1 := getElem_env ρ (.p q :: .i n :: .i cap :: us) 1
  have e2 := getElem_env ρ (.p q :: .i n :: .i cap :: us) 2
  rw [Nat.add_zero] at e0
  simp only [Sh.fresh, SV.den, IT.eval, atAddr, Env.ptr, Env.int]
  rw [e0, e1, e2]
  simp only [List.getElem?_cons_zero, List.getElem?_cons_succ, slv]
  cases q <;> simp [addr_zero]
theorem any_true {α : Type} {p : α → Bool} {l : List α} {i : Nat} (hi : i < l.length) (h : p l[i] = true) : l.any p = true := List.any_eq_true.2 ⟨l[i], List.getElem_mem hi, h⟩
theorem findIdx?_at {α : Type} {p : α → Bool} {l : List α} {j : Nat} (hj : j < l.length) (h : p l[j] = true) (hb : ∀ i (hi : i < l.length), i < j → p l[i] = false) : l.findIdx? p = some j := by
  rw [List.findIdx?_eq_some_iff_getElem]
  exact ⟨hj, h, fun i hi => by simp [hb i (by omega) hi]⟩
theorem findIdx?_none {α : Type} {p : α → Bool} {l : List α} (hb : ∀ i (hi : i < l.length), p l[i] = false) : l.findIdx? p = none := by
  rw [List.findIdx?_eq_none_iff]
  intro x hx
  obtain ⟨i, hi, rfl⟩ := List.getElem_of_mem hx
  exact hb i hi
theorem checkL_cons {w : List Snd} {l : List (List Snd)} : checkL (w :: l) = if checkW w ≠ 0 then checkW w else checkL l := rfl
def labAt (l : List Int) (i : Nat) : Int := l[i]?.getD 0
def intsL (l : List Int) : List Value := l.map (Value.int .i64)
theorem intsL_len (l : List Int) : (intsL l).length = l.length := List.length_map _
theorem intsL_at (l : List Int) (i : Nat) (h : i < l.length) : (intsL l)[i]? = some (.int .i64 (labAt l i)) := by
  unfold intsL labAt; rw [List.getElem?_map, List.getElem?_eq_getElem h]; rfl
theorem run_slnil {P : Program} {t e ty : TypeId} {x y : Operand} {z : TypeId} {q : Option Addr} {n cap : Nat} {w : World} (h : P.underlying t = some (.slice e)) : (XOp.sem (.binOp .eql t x y z) ty [slv q n cap, .slice none 0 0]).run P w = .ok (.value (.bool q.isNone)) w := by
  show (do pure (Next.value (← (do eqGuard .eql t x y (slv q n cap) (.slice none 0 0); binOp .eql t (slv q n cap) (.slice none 0 0)))) : Sem Next).run P w = _
  have h1 : (eqGuard .eql t x y (slv q n cap) (.slice none 0 0)).run P w = .ok () w := by cases q <;> rfl
  have h2 : (binOp .eql t (slv q n cap) (.slice none 0 0)).run P w = .ok (.bool q.isNone) w := by
    rw [show slv q n cap = Value.slice q n cap by cases q <;> rfl]
    simp only [binOp]
    simp [Op.equal, Op.maxDepth, Lib.run_equalIn_slice_nil w 9999 t e q n cap 0 0 h]
  simp only [Sem.run_bind, h1, Result.andThen_ok, h2]
  rfl
theorem cap0_of {m : Mem} {e : TypeId} {size : Nat} {q : Option Addr} {cap n : Nat} {xs : List Value} (h : Row m e size q cap n xs) (hq : q = none) : cap = 0 := by
  rcases h.2 with ⟨_, _, h⟩ | ⟨g, _, h, _⟩
  · exact h
  · rw [h] at hq; cases hq
theorem join_old {m mq : Mem} {b : Nat} (h : m b ≠ none) : m.join mq b = m b := by
  unfold Mem.join
  cases h' : m b with
  | none => exact absurd h' h
  | some o => rfl
theorem join_new {m mq : Mem} {b : Nat} (h : m b = none) : m.join mq b = mq b := by unfold Mem.join; rw [h]
theorem intsL_set (l : List Int) (i : Nat) (x : Int) : (intsL l).set i (.int .i64 x) = intsL (l.set i x) := by unfold intsL; rw [List.map_set]
theorem intsL_one (l : List Int) : ∀ u ∈ intsL l, u.oneCell' = true := fun u hu => by
  obtain ⟨x, _, rfl⟩ := List.mem_map.1 hu; rfl
/-- What is known where only a memory is. -/
def Mem.mv (m : Mem) : Mv := Mv.on ⟨fun _ _ => none, fun _ => none⟩ m
theorem Mem.mv_row {m : Mem} {e : TypeId} {size : Nat} {q : Option Addr} {cap n : Nat} {xs : List Value} (h : Row m e size q cap n xs) : Cells m.mv q xs := h.cells fun g cur hg o => by
  unfold Mem.mv; rw [Mv.on_c, hg]
theorem Mem.mv_cells {m : Mem} {b : Nat} {xs : List Value} {e : TypeId} (h : m b = some (.cells xs.toArray e (0, 0))) : Cells m.mv (some ⟨b, 0, none⟩) xs := fun i x hx => ⟨b, 0, rfl, by
  unfold Mem.mv; rw [Mv.on_c, h]; simpa using hx⟩
def sm : Nat → (Nat → Int) → Int
  | 0, _ => 0
  | n + 1, g => sm n g + g n
theorem sm_congr {n : Nat} {g h : Nat → Int} (e : ∀ i, i < n → g i = h i) : sm n g = sm n h := by
  induction n with
  | zero => rfl
  | succ n ih => simp only [sm]; rw [ih fun i hi => e i (by omega), e n (by omega)]
theorem sm_add (n : Nat) (g h : Nat → Int) : sm n (fun i => g i + h i) = sm n g + sm n h := by
  induction n with
  | zero => rfl
  | succ n ih => simp only [sm]; rw [ih]; omega
theorem sm_zero {n : Nat} {g : Nat → Int} (e : ∀ i, i < n → g i = 0) : sm n g = 0 := by
  induction n with
  | zero => rfl
  | succ n ih => simp only [sm]; rw [ih fun i hi => e i (by omega), e n (by omega)]; rfl
theorem sm_bound {n : Nat} {g : Nat → Int} {B : Int} (h : ∀ i, i < n → 0 ≤ g i ∧ g i ≤ B) : 0 ≤ sm n g ∧ sm n g ≤ n * B := by
  induction n with
  | zero => simp [sm]
  | succ n ih =>
    have h1 := ih fun i hi => h i (by omega)
    have h2 := h n (by omega)
    simp only [sm]
    rw [Int.natCast_succ, Int.add_mul, Int.one_mul]
    omega
/-- A row of numbers as an argument. -/
structure IR where
  p : Option Addr
  cap : Nat
  l : List Int
def IR.v (r : IR) : Value := slv r.p r.l.length r.cap
def RowsAt (R : Mv) (q : Option Addr) (rs : List IR) : Prop := Cells R q (rs.map IR.v) ∧ ∀ r ∈ rs, Cells R r.p (intsL r.l)
theorem RowsAt.mono {R S : Mv} {q : Option Addr} {rs : List IR} (h : RowsAt R q rs) (hle : R.le S) : RowsAt S q rs := ⟨h.1.mono hle, fun r hr => (h.2 r hr).mono hle⟩
theorem row_at (rs : List IR) (i : Nat) (h : i < rs.length) : (rs.map IR.v)[i]? = some (slv rs[i].p rs[i].l.length rs[i].cap) := by rw [List.getElem?_map, List.getElem?_eq_getElem h]; rfl
/-- It has all that m has. -/
def Mem.le (m m' : Mem) : Prop := ∀ b o, m b = some o → m' b = some o
theorem Mem.le.refl (m : Mem) : m.le m := fun _ _ h => h
theorem Mem.le.trans {m m' m'' : Mem} (h : m.le m') (k : m'.le m'') : m.le m'' := fun b o x => k b o (h b o x)
theorem Mem.le.keep {m m' : Mem} (h : m.le m') {b : Nat} (hb : m b ≠ none) : m' b = m b := by
  cases e : m b with
  | none => exact absurd e hb
  | some o => exact h b o e
theorem Mem.le.mv {m m' : Mem} (h : m.le m') : m.mv.le m'.mv := by
  refine ⟨fun b o v hv => ?_, fun b es hv => ?_⟩
  · unfold Mem.mv at hv ⊢
    rw [Mv.on_c] at hv ⊢
    cases hb : m b with
    | none => rw [hb] at hv; cases hv
    | some x => rw [h b x hb]; rw [hb] at hv; exact hv
  · unfold Mem.mv at hv ⊢
    rw [Mv.on_m] at hv ⊢
    cases hb : m b with
    | none => rw [hb] at hv; cases hv
    | some x => rw [h b x hb]; rw [hb] at hv; exact hv
theorem Row.le {m m' : Mem} {e : TypeId} {size : Nat} {q : Option Addr} {cap n : Nat} {xs : List Value} (h : Row m e size q cap n xs) (hle : m.le m') : Row m' e size q cap n xs := h.keep fun _ _ hb => hle.keep hb
theorem run_copy_rowN {P : Program} (w : World) (dT sT ty elem : TypeId) (s g o dLen dCap : Nat) (a : Addr) (sLen sCap : Nat) (cur : Array Value) (t : TypeId) (cs : List Value)
    (hu : P.underlying dT = some (.slice elem)) (hs : (P.info? elem).map (·.size) = some s)
    (hg : w.heap[g]? = some (.cells cur t (0, 0))) (hn : cs.length = Nat.min sLen dLen * s)
    (hsrc : ∀ j v, cs[j]? = some v → w.cell? (a.add j) = some v) (hfit : o + cs.length ≤ cur.size) (h1 : ∀ v ∈ cs, v.oneCell' = true) :
    (Builtin.copy_ #[dT, sT] ty #[.slice (some ⟨g, o, none⟩) dLen dCap, .slice (some a) sLen sCap]).run P w =
      .ok (goInt (Nat.min sLen dLen)) (w.setRow g (cur.toList.take o ++ cs ++ cur.toList.drop (o + cs.length)).toArray) := by
  have hl := run_loadCells_list (P := P) w a cs hsrc
  have hst := run_storeCells_at P g o t cs 0 cur w hg (by simpa using hfit) h1
  cases hq : P.info? elem with
  | none => simp [hq] at hs
  | some i =>
    have hi : i.size = s := by simpa [hq] using hs
    simp [Builtin.copy_, run_underlying hu, Builtin.lenOf, Builtin.firstCells, sizeOf, typeInfo, hq, hi, ← hn, hl, hst]
theorem Good.mv {c : Cx} {L : List Nat} {ρ : Env} {blks : List Blk} {m : Mem} (g : Good c L m) : m.mv.le (vw c L ρ blks m) := by
  refine Mv.le.trans ⟨fun b o v hv => ?_, fun b es hv => ?_⟩ g.on
  · unfold Mem.mv at hv
    rw [Mv.on_c] at hv ⊢
    cases hb : m b with
    | none => rw [hb] at hv; cases hv
    | some x => rw [hb] at hv; cases x <;> exact hv
  · unfold Mem.mv at hv
    rw [Mv.on_m] at hv ⊢
    cases hb : m b with
    | none => rw [hb] at hv; cases hv
    | some x => rw [hb] at hv; cases x <;> exact hv
/-- A function that may change the memory mo, which is its caller's own, and reads nothing else. -/
def FnO (P : Program) (f : FuncId) (args : List Value) (mo : Mem) (Q : Value → Mem → Prop) : Prop := ∀ w, (HW.mem mo).H w → Calls P f args.toArray w fun e w' => ∃ v, e = .returned v ∧ (w.heap.size ≤ w'.heap.size ∧ w'.tape = w.tape ∧ w'.os = w.os ∧ w'.output = w.output) ∧
  (∀ k, k < w.heap.size → mo k = none → w'.heap[k]? = w.heap[k]?) ∧ ∃ mq : Mem, (∀ b, mq b ≠ none → mo b ≠ none ∨ w.heap.size ≤ b) ∧ (HW.mem mq).H w' ∧ Q v mq
def Cx.own0 (w : World) (mo : Mem) : Cx where
  hb := HW.bas w mo
  R := ⟨fun _ _ => none, fun _ => none⟩
  ok _ _ _ _ _ := fun h => by cases h
  own _ _ _ := fun h => by cases h
  okm _ _ _ _ := fun h => by cases h
  ownm _ _ := fun h => by cases h
theorem FnO.of {P : Program} {f : FuncId} {shs : List Sh} {t : Tree} (S : FnIs P f shs t) (hmix : P.follows .mixedOrders = true) (us : List U) (hus : Sh.eats shs us = some []) {args : List Value} (hargs : SV.dens [] us (Sh.freshs shs 0).1 = args) {mo : Mem} {Q : Value → Mem → Prop}
    (hd : ∀ c : Cx, DenM P (outM c Q) (fun _ _ _ => False) t [] us c mo []) : FnO P f args mo Q := fun w hmo => by
  obtain ⟨fn, ann, fuel, hf, ht⟩ := S
  have g : Good (Cx.own0 w mo) [] mo := ⟨fun b hb ho => hb ho.2, by simp, List.nodup_nil⟩
  have hH : ((Cx.own0 w mo).hw mo).H w := ⟨HW.bas_self w _, hmo⟩
  refine (fn_sound hf hmix ht (usOk_of hus) hargs hH (hd (Cx.own0 w mo) g)).mono ?_
  rintro e w' ⟨v, rfl, h', hH', hg, m, hm, rfl, hQ⟩
  obtain ⟨q1, q2, q3, q4, q5⟩ := hH'.1
  refine ⟨v, rfl, ⟨q1, q3, q4, q5⟩, q2, m, fun b hb => ?_, hH'.2, hQ⟩
  have := hm b hb
  rcases Nat.lt_or_ge b w.heap.size with hlt | hge
  · exact .inl fun h => this ⟨hlt, h⟩
  · exact .inr hge
theorem labAt_get {l : List Int} {i : Nat} (h : i < l.length) : labAt l i = l[i] := by unfold labAt; rw [List.getElem?_eq_getElem h]; rfl
section
variable {P : Program} {c : Cx} {L : List Nat} {ρ : Env} {blks : List Blk} {m : Mem} {R : Value → HW → Prop} {Dn : Nat → List U → HW → Prop} {A : List (List U → HW → Prop)}
/-- A call that answers with new memory: what was there is there, and what is new. -/
theorem DenM.callE {p : Bool} {f : FuncId} {args : List SV} {sh : Sh} {k : Tree} {vs : List Value} {pre : Mv → Prop} {Q : Value → Mem → Mv → Prop} (hc : FnM P f vs pre Q) (hpre : Good c L m → pre (vw c L ρ blks m))
    (hk : ∀ v mq m', m.le m' → mq.le m' → Q v mq ((vw c L ρ blks m).on mq) → ∃ us, UOk sh us ∧ v = (sh.fresh ρ.length).1.den L (ρ ++ us) ∧ DenM P R Dn k L (ρ ++ us) c m' A) (hargs : SV.dens L ρ args = vs := by rfl) (hs : scBlks ρ.length blks = true := by rfl) : DenM P R Dn (.call p f args sh blks k) L ρ c m A :=
  .callM hc hargs hs hpre fun v mq hfr hQ => hk v mq _ (fun b o hb => by unfold Mem.join; rw [hb]) (fun b o hb => by unfold Mem.join; rw [(hfr b (by rw [hb]; simp)).1, hb]) hQ
/-- A slice is compared with nil. -/
theorem DenM.isNil {t e ty : TypeId} {x y : Operand} {z : TypeId} {sv : SV} {k : Tree} (q : Option Addr) (n cap : Nat) (h : P.underlying t = some (.slice e)) (hk : DenM P R Dn k L (ρ ++ [.b q.isNone]) c m A) (hv : sv.den L ρ = slv q n cap := by rfl) : DenM P R Dn (.extp ⟨.binOp .eql t x y z, ty, [sv, .cst (.slice none 0 0)]⟩ .bool blks k) L ρ c m A := .extp [.b q.isNone] ⟨_, rfl⟩ (fun g w hw => by
  have e1 := getElem_env ρ [.b q.isNone] 0
  rw [Nat.add_zero] at e1
  simp only [SV.dens, Sh.fresh, SV.den, BT.eval, Env.bool]
  rw [hv, e1]
  exact run_slnil h) hk
/-- An element of a slice's beginning. -/
theorem DenM.elemM {i : Nat} {I N C : IT} {s : Sh} {k : Tree} (v : Value) (xs : List Value) (j n : Nat) (hI : I.eval ρ = (j : Int)) (hn : N.eval ρ = (n : Int)) (hj : j < n) (hc : Good c L m → Cells (vw c L ρ blks m) (ρ.ptr i) xs) (hx : xs[j]? = some v)
    (hk : DenM P R Dn k L (ρ ++ letU v) c m A) (hus : Sh.eats [s] (letU v) = some [] := by rfl) (hv : SV.dens L (ρ ++ letU v) (Sh.freshs [s] ρ.length).1 = [v] := by rfl) :
    DenM P R Dn (.chk (.pick (.cmp .geq (.ifeq C (.lit 0) (.lit 0) (.lit 0)) (.lit 0)) (.pick (.cmp .geq I (.lit 0)) (.pick (.cmp .lss I N) (.some i) (.lit false)) (.lit false)) (.lit false)) (.load i (.off I 1 (.ifeq C (.lit 0) (.lit 0) (.lit 0))) [s] blks k)) L ρ c m A := fun g => by
  obtain ⟨b, o, hpe⟩ := (hc g).some (List.getElem?_eq_some_iff.1 hx).1
  refine (DenM.chk ?_ (DenM.load1 v (ρ.ptr i) xs j rfl ?_ hc hx hk hus hv)) g
  · simp only [BT.eval, IT.eval, hI, hn, hpe, cm, pick_and]
    simp; omega
  · simp only [IT.eval, hI]; by_cases h : IT.eval ρ C = 0 <;> simp [h]
/-- What an operation that changes at most one block of the memory leaves. -/
structure Left (c : Cx) (L : List Nat) (ρ : Env) (us : List U) (blks : List Blk) (m m' : Mem) (w w' : World) : Prop where
  good : Good c L m'
  wd : Wd L (ρ ++ us) blks (c.hw m') w'
  grow : Grow (kw L ρ blks (c.hw m)) w (kw L (ρ ++ us) blks (c.hw m')) w'
theorem Left.of {us : List U} (hs : us = [] ∨ scBlks ρ.length blks = true) (g : Good c L m) {w w' : World} (hw : Wd L ρ blks (c.hw m) w) {g0 : Option Nat} {m' : Mem} (hgr : w.grownBy w' g0) (hg0 : ∀ g, g0 = some g → m g ≠ none)
    (hm' : ∀ b, b < w.heap.size → some b ≠ g0 → m' b = m b) (hH : (HW.mem m').H w') : Left c L ρ us blks m m' w w' := by
  have hgood : Good c L m' := ⟨fun b hb' ho => by
      have hlt := c.hb.inb w b hw.hold.1 ho
      by_cases e : some b = g0
      · exact g.mem b (hg0 b e.symm) ho
      · rw [hm' b hlt e] at hb'; exact g.mem b hb' ho, fun b hb' => ⟨by
      have e : some b ≠ g0 := fun e => hg0 b e.symm (g.blk b hb').1
      rw [hm' b (hw.lt b hb') e]; exact (g.blk b hb').1, (g.blk b hb').2⟩, g.nd⟩
  have hblk : ∀ b, b < w.heap.size → m b = none → w'.heap[b]? = w.heap[b]? ∧ m' b = none := fun b hb hn => by
    have e : some b ≠ g0 := fun e => hg0 b e.symm hn
    exact ⟨hgr.block b hb e, (hm' b hb e).trans hn⟩
  have hwd : Wd L ρ blks (c.hw m') w' := ⟨hw.len, fun j k hj => (hblk _ (hw.lt _ (getD_mem (by rw [hw.len]; exact (List.getElem?_eq_some_iff.1 hj).1))) (g.blk _ (getD_mem (by rw [hw.len]; exact (List.getElem?_eq_some_iff.1 hj).1))).1).1.trans (hw.blk j k hj), hw.nd, fun b hb ho => by
    rcases ho with ho | ho
    · exact (g.blk b hb).2 ho
    · exact ho (hgood.blk b hb).1, c.hb.stab w w' hw.hold.1 hgr.size (fun b hb => (hblk b (c.hb.inb w b hw.hold.1 hb) (by
      cases hm : m b with
      | none => rfl
      | some o => exact absurd hb (g.mem b (by rw [hm]; simp)))).1) hgr.tape hgr.os hgr.output, hH⟩
  refine ⟨hgood, ?_, ⟨hgr.size, fun k hk hn => ?_, hgr.tape, hgr.os, hgr.output⟩⟩
  · rcases hs with rfl | hs
    · rw [List.append_nil]; exact hwd
    · exact (Wd.letters hs).2 hwd
  · have hn' : m k = none := by
      cases hm : m k with
      | none => rfl
      | some o => exact absurd (Or.inl (.inr (by show m k ≠ none; rw [hm]; simp))) hn
    have h2 := hblk k hk hn'
    refine ⟨fun ho => ?_, h2.1⟩
    rcases ho with (ho | ho) | ho
    · exact hn (.inl (.inl ho))
    · exact ho h2.2
    · exact hn (.inr ho)
/-- A call that may change the memory mo: what is known of it. -/
theorem DenM.callOw {f : FuncId} {args : List SV} {sh : Sh} {k : Tree} {vs : List Value} {mo : Mem} {Q : Value → Mem → Prop} (hc : ∀ w, Wd L ρ blks (c.hw m) w → Calls P f vs.toArray w fun e w' => ∃ v, e = .returned v ∧ (w.heap.size ≤ w'.heap.size ∧ w'.tape = w.tape ∧ w'.os = w.os ∧ w'.output = w.output) ∧
  (∀ k, k < w.heap.size → mo k = none → w'.heap[k]? = w.heap[k]?) ∧ ∃ mq : Mem, (∀ b, mq b ≠ none → mo b ≠ none ∨ w.heap.size ≤ b) ∧ (HW.mem mq).H w' ∧ Q v mq) (hargs : SV.dens L ρ args = vs) (hs : scBlks ρ.length blks = true) (hmo : ∀ b o, mo b = some o → m b = some o)
    (hk : ∀ v mq, (∀ b, mq b ≠ none → mo b ≠ none ∨ (m b = none ∧ b ∉ L ∧ ¬ c.hb.own b)) → Q v mq → ∃ us, UOk sh us ∧ v = (sh.fresh ρ.length).1.den L (ρ ++ us) ∧ DenM P R Dn k L (ρ ++ us) c ((m.minus mo).join mq) A) : DenM P R Dn (.call false f args sh blks k) L ρ c m A := fun g w hw => by
  rw [hargs]
  have hno : ∀ b, m b = none → mo b = none := fun b hb => by
    cases h : mo b with
    | none => rfl
    | some o => rw [hmo b o h] at hb; cases hb
  refine (hc w hw).mono ?_
  rintro e w' ⟨v, rfl, ⟨b1, b2, b3, b4⟩, hsame, mq, hfr, hmq, hQ⟩
  have hml : ∀ b, m b ≠ none → b < w.heap.size := fun b hb => (HW.mem m).inb w b hw.hold.2 hb
  have hfresh : ∀ b, mq b ≠ none → mo b ≠ none ∨ (m b = none ∧ b ∉ L ∧ ¬ c.hb.own b) := fun b hb' => by
    rcases hfr b hb' with h | hge
    · exact .inl h
    refine .inr ⟨?_, fun hm => by have := hw.lt b hm; omega, fun ho => by have := c.hb.inb w b hw.hold.1 ho; omega⟩
    cases hm : m b with
    | none => rfl
    | some o => have := hml b (by rw [hm]; simp); omega
  obtain ⟨us, hus, hv, hd⟩ := hk v mq hfresh hQ
  have hminus : ∀ b, m.minus mo b ≠ none → m b ≠ none ∧ mo b = none := fun b hb => ⟨by have := Mem.minus_none b hb; rw [Mem.minus_at this] at hb; exact hb, Mem.minus_none b hb⟩
  have hm' : ∀ b, (m.minus mo).join mq b ≠ none → m b ≠ none ∨ (m b = none ∧ b ∉ L ∧ ¬ c.hb.own b ∧ w.heap.size ≤ b) := fun b hb => by
    rcases join_some hb with h | ⟨_, h⟩
    · exact .inl (hminus b h).1
    · by_cases hmb : m b = none
      · refine .inr ?_
        rcases hfr b h with h2 | h2
        · exact absurd (hno b hmb) h2
        · rcases hfresh b h with h3 | h3
          · exact absurd (hno b hmb) h3
          · exact ⟨h3.1, h3.2.1, h3.2.2, h2⟩
      · exact .inl hmb
  have hgood : Good c L ((m.minus mo).join mq) := ⟨fun b hb' => (hm' b hb').elim (g.mem b) fun h => h.2.2.1, fun b hb' => ⟨by
    cases hq : (m.minus mo).join mq b with
    | none => rfl
    | some o => exact ((hm' b (by rw [hq]; simp)).elim (fun h => h (g.blk b hb').1) fun h => h.2.1 hb').elim, (g.blk b hb').2⟩, g.nd⟩
  have hkeep : ∀ b, b < w.heap.size → m b = none → w'.heap[b]? = w.heap[b]? := fun b hb h => hsame b hb (hno b h)
  have hw' : Wd L ρ blks (c.hw ((m.minus mo).join mq)) w' := ⟨hw.len, fun j q hq => by
    have hm : L.getD j 0 ∈ L := getD_mem (by rw [hw.len]; exact (List.getElem?_eq_some_iff.1 hq).1)
    rw [hkeep _ (hw.lt _ hm) (g.blk _ hm).1]; exact hw.blk j q hq, hw.nd, fun b hb' ho => by
    rcases ho with ho | ho
    · exact (g.blk b hb').2 ho
    · exact ho (hgood.blk b hb').1, c.hb.stab w w' hw.hold.1 b1 (fun b hb => hkeep b (c.hb.inb w b hw.hold.1 hb) (by
      cases hm : m b with
      | none => rfl
      | some o => exact absurd hb (g.mem b (by rw [hm]; simp)))) b2 b3 b4, fun b o hbo => by
      have hbo' := hbo
      unfold Mem.join at hbo
      cases hm : m.minus mo b with
      | some x =>
        rw [hm] at hbo; cases hbo
        have h2 := hminus b (by rw [hm]; simp)
        rw [Mem.minus_at h2.2] at hm
        rw [hsame b (hml b h2.1) h2.2]; exact hw.hold.2 b _ hm
      | none => rw [hm] at hbo; exact hmq b o hbo⟩
  refine ⟨_, rfl, us, c.hw ((m.minus mo).join mq), hus, hv, ⟨b1, fun k hk hn => ⟨fun ho => ?_, hkeep k hk ?_⟩, b2, b3, b4⟩, fun h => (by cases h), (Wd.letters hs).2 hw', hd hgood⟩
  · rcases ho with (ho | ho) | ho
    · exact hn (.inl (.inl ho))
    · rcases hm' k ho with h | h
      · exact hn (.inl (.inr h))
      · omega
    · exact hn (.inr ho)
  · cases hm : m k with
    | none => rfl
    | some o => exact absurd (.inl (.inr (by show m k ≠ none; rw [hm]; simp))) hn
/-- A call that may change the memory mo. -/
theorem DenM.callO {f : FuncId} {args : List SV} {sh : Sh} {k : Tree} {vs : List Value} {mo : Mem} {Q : Value → Mem → Prop} (hc : FnO P f vs mo Q) (hargs : SV.dens L ρ args = vs) (hs : scBlks ρ.length blks = true) (hmo : ∀ b o, mo b = some o → m b = some o)
    (hk : ∀ v mq, (∀ b, mq b ≠ none → mo b ≠ none ∨ (m b = none ∧ b ∉ L ∧ ¬ c.hb.own b)) → Q v mq → ∃ us, UOk sh us ∧ v = (sh.fresh ρ.length).1.den L (ρ ++ us) ∧ DenM P R Dn k L (ρ ++ us) c ((m.minus mo).join mq) A) : DenM P R Dn (.call false f args sh blks k) L ρ c m A :=
  .callOw (fun w hw => hc w fun b o hb => hw.hold.2 b o (hmo b o hb)) hargs hs hmo hk
/-- copy into a block of the code's own. -/
theorem DenM.copyR {aO : Array Operand} {t ty e : TypeId} {sz bytes : Nat} {dv sv : SV} {k : Tree} {g o dn dc sn sc : Nat} {a : Addr} {cur : Array Value} {cs : List Value} (hE : El P t e sz bytes) (hm : m g = some (.cells cur e (0, 0)))
    (hx : Good c L m → Cells (vw c L ρ blks m) (some a) cs) (hn : cs.length = Nat.min sn dn * sz) (hfit : o + cs.length ≤ cur.size) (h1 : ∀ v ∈ cs, v.oneCell' = true)
    (hk : DenM P R Dn k L (ρ ++ [.i (Nat.min sn dn : Nat)]) c (m.upd g (.cells (cur.toList.take o ++ cs ++ cur.toList.drop (o + cs.length)).toArray e (0, 0))) A)
    (hd : dv.den L ρ = .slice (some ⟨g, o, none⟩) dn dc) (hs' : sv.den L ρ = .slice (some a) sn sc) (hs : scBlks ρ.length blks = true := by rfl) :
    DenM P R Dn (.ext false ⟨.call ⟨.builtin .copy, aO, #[t, t]⟩, ty, [dv, sv]⟩ (.int .i64) blks k) L ρ c m A := .extM hs fun gd w hw => by
  obtain ⟨i, z, hi, hz, hsz, hby, hzs⟩ := hE.info
  have hg := hw.hold.2 g _ hm
  have hsrc : ∀ j u, cs[j]? = some u → w.cell? (a.add j) = some u := fun j u hu => by
    obtain ⟨b, o', hc, hr⟩ := hx gd j u hu
    cases hc
    have := vw_cell hw _ _ _ hr
    unfold Mv.of at this
    rw [addr_add]; exact this
  have hrun := run_copy_rowN (P := P) w t t ty e sz g o dn dc a sn sc cur e cs hE.und (by rw [hi]; simp [hsz]) hg hn hsrc hfit h1
  refine ⟨goInt (Nat.min sn dn), w.setRow g (cur.toList.take o ++ cs ++ cur.toList.drop (o + cs.length)).toArray, some g, m.upd g (.cells (cur.toList.take o ++ cs ++ cur.toList.drop (o + cs.length)).toArray e (0, 0)), [.i (Nat.min sn dn : Nat)], ?_, ⟨rfl, rfl, rfl, by simp, fun b _ hb => setRow_other w g b _ fun e' => hb (by rw [e'])⟩, fun g' h => (by cases h; rw [hm]; simp), fun b _ hb => Mem.upd_other _ _ fun e' => hb (by rw [e']), fun b ob hb => ?_, fun h => (by cases h), uOk_of rfl, ?_, hk⟩
  · show (builtin .copy #[t, t] ty (aO.map fun | .const _ => true | _ => false) #[dv.den L ρ, sv.den L ρ]).run P w = _
    rw [hd, hs']
    show (do pure (Next.value (← Builtin.copy_ #[t, t] ty #[.slice (some ⟨g, o, none⟩) dn dc, .slice (some a) sn sc])) : Sem Next).run P w = _
    rw [Sem.run_bind, hrun]; rfl
  · by_cases e' : b = g
    · subst e'
      rw [Mem.upd_same] at hb; cases hb
      exact setRow_heap w b cur _ e _ hg
    · rw [Mem.upd_other _ _ e'] at hb
      rw [setRow_other w g b _ e']; exact hw.hold.2 b ob hb
  · have := getElem_env ρ [.i (Nat.min sn dn : Nat)] 0
    rw [Nat.add_zero] at this
    simp only [Sh.fresh, SV.den, IT.eval, Env.int, this]; rfl
end
end Go.Sy
namespace Go.Proofs.YtialbhieaipcgaaDoor
open Go Go.Sy Go.RowKit
theorem minus_join {m mo mq : Mem} {b : Nat} (h : mo b ≠ none ∨ m b = none) : (m.minus mo).join mq b = mq b := by
  have : m.minus mo b = none := by
    unfold Mem.minus
    cases e : mo b with
    | some o => rfl
    | none =>
      rcases h with h | h
      · exact absurd e h
      · exact h
  exact join_new this
/-- Numbers in memory of one's own, as a result. -/
structure RowI (m : Mem) (q : Option Addr) (cq : Nat) (l : List Int) : Prop where
  row : l ≠ [] → Row m 3 1 q cq l.length (intsL l)
  nil : q = none → cq = 0
  le : l.length ≤ cq
theorem RowI.of {m : Mem} {q : Option Addr} {cq : Nat} {l : List Int} (h : Row m 3 1 q cq l.length (intsL l)) : RowI m q cq l := ⟨fun _ => h, cap0_of h, h.cap_le⟩
theorem RowI.keep {m m' : Mem} {q : Option Addr} {cq : Nat} {l : List Int} (h : RowI m q cq l) (hk : ∀ g, q = some ⟨g, 0, none⟩ → m g ≠ none → m' g = m g) : RowI m' q cq l := ⟨fun hl => (h.row hl).keep hk, h.nil, h.le⟩
theorem RowI.joinR {m mq : Mem} {q : Option Addr} {cq : Nat} {l : List Int} (h : RowI mq q cq l) (hf : ∀ b, mq b ≠ none → m b = none) : RowI (m.join mq) q cq l := h.keep fun g _ hg => join_new (hf g hg)
theorem RowI.joinL {m mq : Mem} {q : Option Addr} {cq : Nat} {l : List Int} (h : RowI m q cq l) : RowI (m.join mq) q cq l := h.keep fun g _ hg => join_old hg
theorem RowI.empty (m : Mem) : RowI m none 0 [] := ⟨fun h => absurd rfl h, fun _ => rfl, Nat.le_refl _⟩
theorem RowI.reads {m : Mem} {q : Option Addr} {cq : Nat} {l : List Int} (h : RowI m q cq l) {c : Cx} {L : List Nat} {ρ : Env} {blks : List Blk} (g : Go.Sy.Good c L m) : Cells (vw c L ρ blks m) q (intsL l) := by
  by_cases hl : l = []
  · subst hl; intro i x hx; simp [intsL] at hx
  · exact (h.row hl).reads g
theorem RowI.mv {m : Mem} {q : Option Addr} {cq : Nat} {l : List Int} (h : RowI m q cq l) : Cells m.mv q (intsL l) := by
  by_cases hl : l = []
  · subst hl; intro i x hx; simp [intsL] at hx
  · exact Mem.mv_row (h.row hl)
theorem RowI.le' {m m' : Mem} {q : Option Addr} {cq : Nat} {l : List Int} (h : RowI m q cq l) (hle : m.le m') : RowI m' q cq l := h.keep fun _ _ hb => hle.keep hb
theorem elI : El Tryd.prog 49 3 1 8 := El.of (by kernel_rfl)
theorem elT : El Tryd.prog 23 49 1 24 := El.of (by kernel_rfl)
theorem RowI.keepA {m m' : Mem} {q qo : Option Addr} {cq co no kx : Nat} {l : List Int} {xo : List Value} (h : RowI m q cq l) (ho : Row m 49 1 qo co no xo) (hk : ∀ b, ((∃ o, qo = some ⟨b, o, none⟩) → co < no + kx) → m b ≠ none → m' b = m b) : RowI m' q cq l :=
  ⟨fun hl => (h.row hl).keepA ho (by decide) hk, h.nil, h.le⟩
theorem c_cloneI (q : Option Addr) (cq : Nat) (l : List Int) (hle : l.length ≤ cq) (hnil : q = none → cq = 0) (hl : l.length < 2 ^ 40) : FnM Tryd.prog n_slices_Clone___int_int_ [slv q l.length cq] (fun R => Cells R q (intsL l)) fun v mq _ => ∃ q' cq', v = slv q' l.length cq' ∧ RowI mq q' cq' l := by
  refine FnM.of S_slices_Clone___int_int_ mx [.p q, .i l.length, .i cq] rfl rfl fun c hp => .isNil q l.length cq (e := 3) (by kernel_rfl) (.env (by (try simp only [liE, letsOf, letU, snd, List.append_nil]); rfl) (.ite (fun h1 => .ret rfl ?_) (fun h1 => .alloc fun b0 => ?_)))
  · replace h1 : q.isNone = true := h1
    have h2 := hnil (by simpa using h1)
    have : l = [] := List.length_eq_zero_iff.1 (by omega)
    rw [this]
    exact ⟨none, 0, rfl, .empty _⟩
  · refine .appendLit (b0 := b0) (qx := q) (kx := l.length) (capx := cq) (news := intsL l) elI (fun g => hp.mono g.R) (by rw [intsL_len, Nat.mul_one]) (intsL_one _) hnil (by simp [maxLen]; omega) (by omega) (fun q1 k1 m1 hr1 h01 _ => .env (by (try simp only [liE, letsOf, letU, snd, List.append_nil]); rfl) (.ret rfl ⟨q1, k1, rfl, fun hne => ?_, fun hq => ?_, ?_⟩))
    · exact hr1 fun h => hne (List.length_eq_zero_iff.1 h)
    · by_cases h : l.length = 0
      · exact (h01 h).2
      · exact cap0_of (hr1 h) hq
    · by_cases h : l.length = 0
      · omega
      · exact (hr1 h).cap_le
theorem c_containsI (p : Option Addr) (cp : Nat) (t : List Int) (fv : Value) (hfv : fv.oneCell' = true) (f : Int → Bool) (hl : t.length < 2 ^ 63) (hf : ∀ x ∈ t, FnV Tryd.prog fv [.int .i64 x] (fun _ => True) fun v _ _ => v = .bool (f x)) :
    RetP Tryd.prog n_slices_ContainsFunc___int_int_ [slv p t.length cp, fv] (fun R => Cells R p (intsL t)) (.bool (t.any f)) := by
  have key : RetP Tryd.prog n_slices_IndexFunc___int_int_ [slv p t.length cp, fv] (fun R => Cells R p (intsL t)) (.int .i64 (match t.findIdx? f with | some i => (i : Int) | none => -1)) := by
    refine Fn.of S_slices_IndexFunc___int_int_ mx [.p p, .i t.length, .i cp, .v fv] (by simp [Sh.eats, Sh.eat, eatV, eatP, eatS, hfv]) rfl fun c hp => .chk (by ((try simp only [evE, liE, letsOf, letU, snd]); (try simp only [cmE])); omega) ?_
    refine .loop (fun n us _ => ∃ (e : Int) (j : Nat), us = [.i e, .i j] ∧ n + j = t.length ∧ ∀ i (hi : i < t.length), i < j → f t[i] = false) t.length ⟨0, 0, rfl, rfl, fun i hi h => by omega⟩ ?_
    rintro n _ m _ ⟨e, j, rfl, hn, hb⟩
    refine .env (by (try simp only [liE, letsOf, letU, snd, List.append_nil]); rfl) (.ite (fun h2 => ?_) (fun h2 => .ret rfl ?_)) <;> ((try simp only [evE, liE, letsOf, letU, snd] at h2); (try simp only [cmE] at h2))
    · have hj : j < t.length := by omega
      refine .elem1 (.int .i64 t[j]) (intsL t) j t.length rfl rfl hj (fun g => hp.mono g.R) (by rw [intsL_at t j hj, labAt_get hj]) (.env (by (try simp only [liE, letsOf, letU, snd, List.append_nil]); rfl) (.callvR (hf _ (List.getElem_mem hj)) (fun g => trivial) (fun m' _ => .env (by (try simp only [liE, letsOf, letU, snd, List.append_nil]); rfl) (.ite (fun h3 => .ret rfl ?_) (fun h3 => .again rfl ⟨n - 1, by omega, e, j + 1, ?_, by omega, ?_⟩)))))
      · replace h3 : f t[j] = true := h3
        rw [findIdx?_at hj h3 hb]; rfl
      · (simp only [evE, liE, letsOf, letU, snd, Sh.uss, Sh.us, atAddr, map_add0, List.append_nil]); rw [add_i64 j (by omega)]
      · replace h3 : f t[j] = false := h3
        intro i hi hij
        rcases Nat.lt_or_ge i j with h | h
        · exact hb i hi h
        · have : i = j := by omega
          subst this; exact h3
    · rw [findIdx?_none fun i hi => hb i hi (by omega)]; rfl
  refine Fn.of S_slices_ContainsFunc___int_int_ mx [.p p, .i t.length, .i cp, .v fv] (by simp [Sh.eats, Sh.eat, eatV, eatP, eatS, hfv]) rfl fun c hp => .callV key (fun g => hp.mono g.R) (.env (by (try simp only [liE, letsOf, letU, snd, List.append_nil]); rfl) (.ret rfl ?_))
  cases h : t.findIdx? f with
  | none =>
    rw [List.findIdx?_eq_none_iff] at h
    have : t.any f = false := List.any_eq_false.2 fun x hx => by simp [h x hx]
    rw [this]; rfl
  | some i =>
    obtain ⟨hi, h1, _⟩ := List.findIdx?_eq_some_iff_getElem.1 h
    rw [any_true hi h1]
    show Value.bool (cm .geq (i : Int) 0) = _
    simp [cm]
/-- Rows of numbers in memory of one's own, to be read. -/
structure TabI (m : Mem) (q : Option Addr) (cq : Nat) (rs : List IR) : Prop where
  row : rs ≠ [] → Row m 49 1 q cq rs.length (rs.map IR.v)
  rows : ∀ r ∈ rs, RowI m r.p r.cap r.l
  nil : q = none → cq = 0
  le : rs.length ≤ cq
theorem TabI.joinL {m mq : Mem} {q : Option Addr} {cq : Nat} {rs : List IR} (h : TabI m q cq rs) : TabI (m.join mq) q cq rs := ⟨fun hn => (h.row hn).keep fun g _ hg => join_old hg, fun r hr => (h.rows r hr).joinL, h.nil, h.le⟩
theorem TabI.joinR {m mq : Mem} {q : Option Addr} {cq : Nat} {rs : List IR} (h : TabI mq q cq rs) (hf : ∀ b, mq b ≠ none → m b = none) : TabI (m.join mq) q cq rs := ⟨fun hn => (h.row hn).keep fun g _ hg => join_new (hf g hg), fun r hr => (h.rows r hr).joinR hf, h.nil, h.le⟩
theorem TabI.empty (m : Mem) : TabI m none 0 [] := ⟨fun h => absurd rfl h, (by intro r hr; cases hr), fun _ => rfl, Nat.le_refl _⟩
theorem TabI.reads {m : Mem} {q : Option Addr} {cq : Nat} {rs : List IR} (h : TabI m q cq rs) {c : Cx} {L : List Nat} {ρ : Env} {blks : List Blk} (g : Go.Sy.Good c L m) : RowsAt (vw c L ρ blks m) q rs := by
  refine ⟨?_, fun r hr => (h.rows r hr).reads g⟩
  by_cases hl : rs = []
  · subst hl; intro i x hx; simp at hx
  · exact (h.row hl).reads g
theorem TabI.le' {m m' : Mem} {q : Option Addr} {cq : Nat} {rs : List IR} (h : TabI m q cq rs) (hle : m.le m') : TabI m' q cq rs := ⟨fun hn => Row.le (h.row hn) hle, fun r hr => (h.rows r hr).le' hle, h.nil, h.le⟩
end Go.Proofs.YtialbhieaipcgaaDoor
/- Chapter 18: words; columns. -/
namespace Go.Sy
open Go Go.RowKit
def wordsE (most : Int) (l : List (List Snd)) : Int := if (l.length : Int) > most then 12 else checkL l
end Go.Sy
namespace Go.Proofs.YtialbhieaipcgaaDoor
open Go Go.Sy Go.RowKit
theorem c_words (p : Option Addr) (cp : Nat) (l : List WD) (most : Int) (hl : l.length < 2 ^ 63) (hok : ∀ x ∈ l, Wok x.w) : RetP Tryd.prog n_multi_words [.int .i64 most, slv p l.length cp] (fun R => WordsAt R p l) (.int .i64 (wordsE most (l.map (·.w)))) := by
  refine Fn.of S_multi_words mx [.i most, .p p, .i l.length, .i cp] rfl rfl fun c hp => .chk (by ((try simp only [evE, liE, letsOf, letU, snd]); (try simp only [cmE])); omega) (.ite (fun h1 => .ret rfl ?_) (fun h1 => .chk (by ((try simp only [evE, liE, letsOf, letU, snd]); (try simp only [cmE])); omega) ?_)) <;> ((try simp only [evE, liE, letsOf, letU, snd] at h1); (try simp only [cmE] at h1))
  · ((try simp only [evE, liE, letsOf, letU, snd]); (try simp only [cmE])); unfold wordsE; rw [if_pos (by simpa using h1)]
  · have hw : wordsE most (l.map (·.w)) = checkL (l.map (·.w)) := by unfold wordsE; rw [if_neg (by simpa using h1)]
    rw [hw]
    refine .loop (fun n us _ => ∃ (e : Int) (j : Nat), us = [.i e, .i j] ∧ n + j = l.length ∧ ∀ x ∈ l.take j, checkW x.w = 0) l.length ⟨0, 0, rfl, rfl, by simp⟩ ?_
    rintro n _ m _ ⟨e, j, rfl, hn, hok'⟩
    have hk := checkL_take (by omega) hok'
    refine .ite (fun h2 => ?_) (fun h2 => .ret rfl ?_) <;> ((try simp only [evE, liE, letsOf, letU, snd] at h2); (try simp only [cmE] at h2))
    · have hj : j < l.length := by omega
      rw [List.drop_eq_getElem_cons hj, List.map_cons, checkL] at hk
      refine .loadWD l j hj (fun g => hp.1.mono g.R) (.callV (c_wordCheck l[j].p l[j].cap l[j].w (hok _ (List.getElem_mem hj))) (fun g => (hp.2 _ (List.getElem_mem hj)).mono g.R) (.ite (fun h3 => .ret rfl ?_) (fun h3 => .again rfl ⟨n - 1, by omega, e, j + 1, ?_, by omega, fun x hx => ?_⟩))) <;> ((try simp only [evE, liE, letsOf, letU, snd] at h3); (try simp only [cmE] at h3))
      · ((try simp only [evE, liE, letsOf, letU, snd]); (try simp only [cmE])); rw [hk, if_pos h3]
      · (simp only [evE, liE, letsOf, letU, snd, Sh.uss, Sh.us, atAddr, map_add0, List.append_nil]); rw [add_i64 j (by omega)]
      · rw [List.take_succ_eq_append_getElem hj] at hx
        rcases List.mem_append.1 hx with hx | hx
        · exact hok' x hx
        · simp at hx; rw [hx]; exact h3
    · rw [List.drop_of_length_le (by omega)] at hk
      ((try simp only [evE, liE, letsOf, letU, snd]); (try simp only [cmE])); rw [hk]; rfl
end Go.Proofs.YtialbhieaipcgaaDoor
/- Chapter 18: what an alignment is. -/
namespace Go.Sy
open Go Go.RowKit
/-- The number that follows those of a row, if these go up one by one. -/
def rowGo : Int → List Int → Option Int
  | n, [] => some n
  | n, x :: xs => if x = -1 then rowGo n xs else if x = n then rowGo (n + 1) xs else none
def colOk (n : Nat) (col : List Int) : Bool := decide (col.length = n) && col.any (fun x => x != -1)
def rowOf (cols : List (List Int)) (k : Nat) : List Int := cols.map fun col => labAt col k
def wl (ws : List (List Snd)) (k : Nat) : Int := ((ws[k]?.getD []).length : Nat)
def isAl (ws : List (List Snd)) (cols : List (List Int)) : Bool := cols.all (colOk ws.length) && (List.range ws.length).all fun k => decide (rowGo 0 (rowOf cols k) = some (wl ws k))
theorem rowGo_append (n : Int) (xs ys : List Int) : rowGo n (xs ++ ys) = (rowGo n xs).bind fun m => rowGo m ys := by
  induction xs generalizing n with
  | nil => rfl
  | cons x xs ih =>
    simp only [List.cons_append, rowGo]
    split
    · exact ih n
    · split
      · exact ih (n + 1)
      · rfl
theorem rowGo_bound {n m : Int} {xs : List Int} (h : rowGo n xs = some m) : n ≤ m ∧ m ≤ n + xs.length := by
  induction xs generalizing n with
  | nil => simp only [rowGo, Option.some.injEq] at h; simp; omega
  | cons x xs ih =>
    simp only [rowGo] at h
    simp only [List.length_cons]
    split at h
    · have := ih h; omega
    · split at h
      · have := ih h; omega
      · cases h
theorem rowOf_len (cols : List (List Int)) (k : Nat) : (rowOf cols k).length = cols.length := List.length_map _
theorem rowOf_take {cols : List (List Int)} {j : Nat} (hj : j < cols.length) (k : Nat) : rowOf (cols.take (j + 1)) k = rowOf (cols.take j) k ++ [labAt cols[j] k] := by
  unfold rowOf; rw [List.take_succ_eq_append_getElem hj, List.map_append]; rfl
theorem rowGo_step {cols : List (List Int)} {j : Nat} (hj : j < cols.length) {k : Nat} {m : Int} (h : rowGo 0 (rowOf (cols.take j) k) = some m) :
    rowGo 0 (rowOf (cols.take (j + 1)) k) = if labAt cols[j] k = -1 then some m else if labAt cols[j] k = m then some (m + 1) else none := by
  rw [rowOf_take hj, rowGo_append, h]
  simp only [Option.bind_some, rowGo]
theorem rowGo_none {cols : List (List Int)} {j : Nat} {k : Nat} (h : rowGo 0 (rowOf (cols.take j) k) = none) : rowGo 0 (rowOf cols k) = none := by
  have : rowOf cols k = rowOf (cols.take j) k ++ rowOf (cols.drop j) k := by unfold rowOf; rw [← List.map_append, List.take_append_drop]
  rw [this, rowGo_append, h]; rfl
theorem isAl_col {ws : List (List Snd)} {cols : List (List Int)} {i : Nat} (hi : i < cols.length) (h : colOk ws.length cols[i] = false) : isAl ws cols = false := by
  unfold isAl
  have : cols.all (colOk ws.length) = false := by
    rw [Bool.eq_false_iff]; intro ha
    rw [List.all_eq_true.1 ha _ (List.getElem_mem hi)] at h; cases h
  rw [this]; rfl
theorem isAl_row {ws : List (List Snd)} {cols : List (List Int)} {k : Nat} (hk : k < ws.length) (h : rowGo 0 (rowOf cols k) ≠ some (wl ws k)) : isAl ws cols = false := by
  unfold isAl
  have : (List.range ws.length).all (fun k => decide (rowGo 0 (rowOf cols k) = some (wl ws k))) = false := by
    rw [Bool.eq_false_iff]; intro ha
    exact h (of_decide_eq_true (List.all_eq_true.1 ha k (List.mem_range.2 hk)))
  rw [this, Bool.and_false]
theorem isAl_yes {ws : List (List Snd)} {cols : List (List Int)} (h1 : ∀ i (hi : i < cols.length), colOk ws.length cols[i] = true) (h2 : ∀ k, k < ws.length → rowGo 0 (rowOf cols k) = some (wl ws k)) : isAl ws cols = true := by
  unfold isAl
  rw [Bool.and_eq_true]
  refine ⟨List.all_eq_true.2 fun x hx => ?_, List.all_eq_true.2 fun k hk => decide_eq_true (h2 k (List.mem_range.1 hk))⟩
  obtain ⟨i, hi, rfl⟩ := List.mem_iff_getElem.1 hx
  exact h1 i hi
/-- An alignment's columns and rows. -/
theorem isAl_of {ws : List (List Snd)} {cols : List (List Int)} (h : isAl ws cols = true) : (∀ col ∈ cols, col.length = ws.length ∧ ∃ x ∈ col, x ≠ -1) ∧ ∀ k, k < ws.length → rowGo 0 (rowOf cols k) = some (wl ws k) := by
  unfold isAl at h
  rw [Bool.and_eq_true] at h
  refine ⟨fun col hc => ?_, fun k hk => of_decide_eq_true (List.all_eq_true.1 h.2 k (List.mem_range.2 hk))⟩
  have := List.all_eq_true.1 h.1 col hc
  unfold colOk at this
  rw [Bool.and_eq_true, List.any_eq_true] at this
  obtain ⟨h1, x, hx, h2⟩ := this
  exact ⟨of_decide_eq_true h1, x, hx, by simpa using h2⟩
def cntS (col : List Int) (k : Nat) : Nat := (col.take k).countP (fun x => x != -1)
theorem cntS_succ {col : List Int} {k : Nat} (hk : k < col.length) : cntS col (k + 1) = cntS col k + if labAt col k = -1 then 0 else 1 := by
  unfold cntS
  rw [List.take_succ_eq_append_getElem hk, List.countP_append, labAt_get hk]
  by_cases h : col[k] = -1 <;> simp [h]
theorem cntS_zero {col : List Int} : cntS col col.length = 0 ↔ col.any (fun x => x != -1) = false := by
  unfold cntS
  rw [List.take_length, List.countP_eq_zero]
  constructor
  · intro h; rw [Bool.eq_false_iff]; intro ha
    obtain ⟨x, hx, hy⟩ := List.any_eq_true.1 ha
    exact h x hx hy
  · intro h x hx hy
    rw [List.any_eq_true.2 ⟨x, hx, hy⟩] at h; cases h
theorem wl_at (l : List WD) {k : Nat} (hk : k < l.length) : wl (l.map (·.w)) k = (l[k].w.length : Nat) := by unfold wl; rw [List.getElem?_map, List.getElem?_eq_getElem hk]; rfl
end Go.Sy
namespace Go.Proofs.YtialbhieaipcgaaDoor
open Go Go.Sy Go.RowKit
end Go.Proofs.YtialbhieaipcgaaDoor
/- Chapter 18: Check. -/
namespace Go.Sy
open Go Go.RowKit
def checkA (ws : List (List Snd)) (cols : List (List Int)) : Int := if wordsE 8 ws ≠ 0 then wordsE 8 ws else if isAl ws cols = true then 0 else 8
end Go.Sy
namespace Go.Proofs.YtialbhieaipcgaaDoor
open Go Go.Sy Go.RowKit
theorem c_aligned1 (x : WD) (n : Int) : FnM Tryd.prog n_multi_aligned_1 [x.v, .int .i64 n] (fun _ => True) fun v _ _ => v = .bool (decide ((x.w.length : Int) = n)) := by
  refine FnM.of S_multi_aligned_1 mx [.p x.p, .i x.w.length, .i x.cap, .i n] rfl rfl fun c _ => .chk (by ((try simp only [evE, liE, letsOf, letU, snd]); (try simp only [cmE])); omega) (.ret rfl ?_)
  ((try simp only [evE, liE, letsOf, letU, snd]); (try simp only [cmE]))
  rfl
theorem c_eqLens (p q : Option Addr) (cp cq : Nat) (l : List WD) (nx : List Int) (hl : l.length < 2 ^ 62) (hlen : nx.length = l.length) :
    RetP Tryd.prog n_slices_EqualFunc_____api_Sound___int___api_Sound_int_ [slv p l.length cp, slv q nx.length cq, .func (.func n_multi_aligned_1) #[] #[]] (fun R => WordsAt R p l ∧ Cells R q (intsL nx)) (.bool (decide (∀ k, k < l.length → wl (l.map (·.w)) k = labAt nx k))) := by
  refine Fn.of S_slices_EqualFunc_____api_Sound___int___api_Sound_int_ mx [.p p, .i l.length, .i cp, .p q, .i nx.length, .i cq, .v (.func (.func n_multi_aligned_1) #[] #[])] rfl rfl fun c hp => .chk (by ((try simp only [evE, liE, letsOf, letU, snd]); (try simp only [cmE])); omega) (.chk (by ((try simp only [evE, liE, letsOf, letU, snd]); (try simp only [cmE])); omega) (.no (by ((try simp only [evE, liE, letsOf, letU, snd]); (try simp only [cmE])); omega) (.chk (by ((try simp only [evE, liE, letsOf, letU, snd]); (try simp only [cmE])); omega) ?_)))
  refine .loop (fun n us _ => ∃ (e : Bool) (j : Nat), us = [.b e, .i j] ∧ n + j = l.length ∧ ∀ k, k < j → wl (l.map (·.w)) k = labAt nx k) l.length ⟨false, 0, rfl, rfl, fun i h => by omega⟩ ?_
  rintro n _ m _ ⟨e, j, rfl, hn, hb⟩
  refine .env (by (try simp only [liE, letsOf, letU, snd, List.append_nil]); rfl) (.ite (fun h2 => ?_) (fun h2 => .ret rfl ?_)) <;> ((try simp only [evE, liE, letsOf, letU, snd] at h2); (try simp only [cmE] at h2))
  · have hj : j < l.length := by omega
    refine .loadWD l j hj (fun g => hp.1.1.mono g.R) (.env (by (try simp only [liE, letsOf, letU, snd, List.append_nil]); rfl) (.elem1 (.int .i64 (labAt nx j)) (intsL nx) j nx.length rfl rfl (by omega) (fun g => hp.2.mono g.R) (intsL_at _ _ (by omega)) (.env (by (try simp only [liE, letsOf, letU, snd, List.append_nil]); rfl) (.callvR (.of0 (by kernel_rfl) (c_aligned1 l[j] (labAt nx j))) (fun g => trivial) (fun m' _ => .env (by (try simp only [liE, letsOf, letU, snd, List.append_nil]); rfl) (.ite (fun h3 => .ret rfl ?_) (fun h3 => .again rfl ⟨n - 1, by omega, e, j + 1, ?_, by omega, fun k hk => ?_⟩)))))))
    · replace h3 : (!decide ((l[j].w.length : Int) = labAt nx j)) = true := h3
      have hd : decide (∀ k, k < l.length → wl (l.map (·.w)) k = labAt nx k) = false := decide_eq_false fun h => by
        have h4 := h j hj
        rw [wl_at l hj] at h4
        rw [decide_eq_true h4] at h3; cases h3
      rw [hd]; rfl
    · (simp only [evE, liE, letsOf, letU, snd, Sh.uss, Sh.us, atAddr, map_add0, List.append_nil]); rw [add_i64 j (by omega)]
    · replace h3 : (!decide ((l[j].w.length : Int) = labAt nx j)) = false := h3
      rcases Nat.lt_or_ge k j with h | h
      · exact hb k h
      · have : k = j := by omega
        subst this
        rw [wl_at l hj]; simpa using h3
  · rw [decide_eq_true (fun k hk => hb k (by omega))]; rfl
theorem c_aligned (p pc : Option Addr) (cp cc : Nat) (l : List WD) (rs : List IR) (hl : l.length ≤ 8) (hr : rs.length < 2 ^ 62) (hrl : ∀ r ∈ rs, r.l.length < 2 ^ 62) :
    RetP Tryd.prog n_multi_aligned [slv p l.length cp, slv pc rs.length cc] (fun R => WordsAt R p l ∧ RowsAt R pc rs) (.bool (isAl (l.map (·.w)) (rs.map (·.l)))) := by
  have hlen : (l.map (·.w)).length = l.length := List.length_map _
  have hclen : (rs.map (·.l)).length = rs.length := List.length_map _
  refine Fn.of S_multi_aligned mx [.p p, .i l.length, .i cp, .p pc, .i rs.length, .i cc] rfl rfl fun c hp => .chk (by ((try simp only [evE, liE, letsOf, letU, snd]); (try simp only [cmE])); omega) ?_
  refine .make (z := .int .i64 0) (bytes := 8) l.length Tryd.underlying49 (by kernel_rfl) rfl (by omega) (by simp [maxLen]; omega) fun g9 hg9 hrow => .env (by (try simp only [liE, letsOf, letU, snd, List.append_nil]); rfl) (.chk (by ((try simp only [evE, liE, letsOf, letU, snd]); (try simp only [cmE])); omega) ?_)
  generalize Mem.upd _ g9 _ = m9 at hrow ⊢
  refine .loop (fun n us m => ∃ (e : Bool) (j : Nat) (nx : List Int), us = [.b e, .i j] ∧ n + j = rs.length ∧ (∀ i (hi : i < rs.length), i < j → colOk l.length rs[i].l = true) ∧ nx.length = l.length ∧ (∀ k, k < l.length → rowGo 0 (rowOf ((rs.map (·.l)).take j) k) = some (labAt nx k)) ∧ Row m 3 1 (some ⟨g9, 0, none⟩) l.length l.length (intsL nx)) rs.length ⟨false, 0, List.replicate l.length 0, rfl, rfl, fun i hi h => by omega, by simp, fun k hk => ?_, ?_⟩ ?_
  · unfold labAt; rw [List.getElem?_replicate, if_pos hk]; rfl
  · unfold intsL; rw [List.map_replicate]; exact hrow
  rintro n _ m _ ⟨e, j, nx, rfl, hn, hb, hnl, hnx, hro⟩
  refine .env (by (try simp only [liE, letsOf, letU, snd, List.append_nil]); rfl) (.ite (fun h1 => ?_) (fun h1 => ?_)) <;> ((try simp only [evE, liE, letsOf, letU, snd] at h1); (try simp only [cmE] at h1))
  · have hj : j < rs.length := by omega
    have hrw := hp.2.2 _ (List.getElem_mem hj)
    have hrlj := hrl _ (List.getElem_mem hj)
    have bad : colOk l.length rs[j].l = false → isAl (l.map (·.w)) (rs.map (·.l)) = false := fun h => isAl_col (i := j) (by rw [hclen]; exact hj) (by rw [hlen]; simpa using h)
    refine .loadSl (rs.map IR.v) j rs.length rs[j].p rs[j].l.length rs[j].cap hj (row_at rs j hj) (fun g => hp.2.1.mono g.R) (.env (by (try simp only [liE, letsOf, letU, snd, List.append_nil]); rfl) (.chk (by ((try simp only [evE, liE, letsOf, letU, snd]); (try simp only [cmE])); omega) (.chk (by ((try simp only [evE, liE, letsOf, letU, snd]); (try simp only [cmE])); omega) (.ite (fun h2 => .ret rfl ?_) (fun h2 => .chk (by ((try simp only [evE, liE, letsOf, letU, snd]); (try simp only [cmE])); omega) ?_))))) <;> ((try simp only [evE, liE, letsOf, letU, snd] at h2); (try simp only [cmE] at h2))
    · rw [bad (by unfold colOk; rw [decide_eq_false (by omega)]; rfl)]; rfl
    · have hll : rs[j].l.length = l.length := by omega
      refine .loop (fun n us m => ∃ (e : Bool) (k : Nat) (nx : List Int), k ≤ l.length ∧ us = [.b e, .b (decide (cntS rs[j].l k = 0)), .i k] ∧ n = l.length - k ∧ nx.length = l.length ∧ (∀ k', k' < l.length → rowGo 0 (rowOf ((rs.map (·.l)).take (if k' < k then j + 1 else j)) k') = some (labAt nx k')) ∧ Row m 3 1 (some ⟨g9, 0, none⟩) l.length l.length (intsL nx)) l.length ⟨e, 0, nx, Nat.zero_le _, by (simp only [evE, liE, letsOf, letU, snd, Sh.uss, Sh.us, atAddr, map_add0, List.append_nil]); rfl, rfl, hnl, fun k' hk' => by rw [if_neg (by omega)]; exact hnx k' hk', hro⟩ ?_
      rintro n2 _ m2 _ ⟨e2, k, nx2, hk, rfl, rfl, hnl2, hnx2, hro2⟩
      refine .env (by (try simp only [liE, letsOf, letU, snd, List.append_nil]); rfl) (.ite (fun h3 => ?_) (fun h3 => ?_)) <;> ((try simp only [evE, liE, letsOf, letU, snd] at h3); (try simp only [cmE] at h3))
      · have hk : k < l.length := by omega
        have hcs := cntS_succ (col := rs[j].l) (k := k) (by omega)
        have hnk := hnx2 k hk
        rw [if_neg (by omega)] at hnk
        have hst := rowGo_step (cols := rs.map (·.l)) (j := j) (by rw [hclen]; exact hj) hnk
        rw [List.getElem_map] at hst
        have hbd := rowGo_bound hnk
        rw [rowOf_len, List.length_take] at hbd
        have others : ∀ {nx' : List Int} (v : Int), nx' = nx2.set k v → ((if labAt rs[j].l k = -1 then some (labAt nx2 k) else if labAt rs[j].l k = labAt nx2 k then some (labAt nx2 k + 1) else none) = some v) → ∀ k', k' < l.length → rowGo 0 (rowOf ((rs.map (·.l)).take (if k' < k + 1 then j + 1 else j)) k') = some (labAt nx' k') := by
          intro nx' v hv he k' hk'
          subst hv
          rcases Nat.lt_trichotomy k' k with h | h | h
          · have := hnx2 k' hk'
            rw [if_pos h] at this
            rw [if_pos (by omega), this]; unfold labAt; rw [List.getElem?_set_ne (by omega)]
          · subst h
            rw [if_pos (by omega), hst, he]; unfold labAt; rw [List.getElem?_set_self (by omega)]; rfl
          · have := hnx2 k' hk'
            rw [if_neg (by omega)] at this
            rw [if_neg (by omega), this]; unfold labAt; rw [List.getElem?_set_ne (by omega)]
        refine .elem1 (.int .i64 (labAt rs[j].l k)) (intsL rs[j].l) k rs[j].l.length rfl rfl (by omega) (fun g => hrw.mono g.R) (intsL_at _ _ (by omega)) (.env (by (try simp only [liE, letsOf, letU, snd, List.append_nil]); rfl) (.ite (fun h4 => .again rfl ⟨l.length - (k + 1), by omega, e2, k + 1, nx2, by omega, ?_, rfl, hnl2, ?_, hro2⟩) (fun h4 => .elem1 (.int .i64 (labAt nx2 k)) (intsL nx2) k l.length rfl rfl hk (fun g => hro2.reads g) (intsL_at _ _ (by omega)) (.env (by (try simp only [liE, letsOf, letU, snd, List.append_nil]); rfl) (.ite (fun h5 => ?_) (fun h5 => .ret rfl ?_)))))) <;> ((try simp only [evE, liE, letsOf, letU, snd] at h4); (try simp only [cmE] at h4))
        · rw [if_pos h4] at hcs
          (simp only [evE, liE, letsOf, letU, snd, Sh.uss, Sh.us, atAddr, map_add0, List.append_nil]); rw [add_i64 k (by omega), hcs]; rfl
        · have hset : nx2 = nx2.set k (labAt nx2 k) := by
            rw [labAt_get (by omega), List.set_getElem_self]
          exact others _ hset (if_pos h4)
        · ((try simp only [evE, liE, letsOf, letU, snd] at h5); (try simp only [cmE] at h5))
          refine .elem1 (.int .i64 (labAt nx2 k)) (intsL nx2) k l.length rfl rfl hk (fun g => hro2.reads g) (intsL_at _ _ (by omega)) (.env (by (try simp only [liE, letsOf, letU, snd, List.append_nil]); rfl) (.storeR k hk hro2 rfl rfl rfl fun m5 g hg hr5 hs5 => .again rfl ⟨l.length - (k + 1), by omega, e2, k + 1, nx2.set k (labAt nx2 k + 1), by omega, ?_, rfl, by rw [List.length_set]; exact hnl2, others _ rfl (by rw [if_neg h4, if_pos h5]), ?_⟩))
          · rw [if_neg h4] at hcs
            (simp only [evE, liE, letsOf, letU, snd, Sh.uss, Sh.us, atAddr, map_add0, List.append_nil]); rw [add_i64 k (by omega), hcs, decide_eq_false (by omega)]
          · rw [← intsL_set]
            have h6 : Row m5 3 1 (some ⟨g9, 0, none⟩) l.length l.length ((intsL nx2).set k (.int .i64 (ar .add .i64 (labAt nx2 k) 1))) := hr5
            rw [addI (by omega) (by omega)] at h6
            exact h6
        · ((try simp only [evE, liE, letsOf, letU, snd] at h5); (try simp only [cmE] at h5))
          rw [if_neg h4, if_neg h5] at hst
          rw [isAl_row (k := k) (by rw [hlen]; exact hk) (by rw [rowGo_none hst]; simp)]; rfl
      · have hk : k = rs[j].l.length := by omega
        subst hk
        refine .ite (fun h4 => .ret rfl ?_) (fun h4 => .again rfl ⟨n - 1, by omega, e2, j + 1, nx2, ?_, by omega, fun i hi hij => ?_, hnl2, fun k' hk' => ?_, hro2⟩) <;> ((try simp only [evE, liE, letsOf, letU, snd] at h4); (try simp only [cmE] at h4))
        · rw [bad (by unfold colOk; rw [cntS_zero.1 (by simpa using h4), Bool.and_false])]; rfl
        · (simp only [evE, liE, letsOf, letU, snd, Sh.uss, Sh.us, atAddr, map_add0, List.append_nil]); rw [add_i64 j (by omega)]
        · rcases Nat.lt_or_ge i j with h | h
          · exact hb i hi h
          · have : i = j := by omega
            subst this
            unfold colOk
            rw [decide_eq_true hll, Bool.true_and]
            cases ha : rs[i].l.any (fun x => x != -1) with
            | true => rfl
            | false => exact absurd (cntS_zero.2 ha) (by simpa using h4)
        · have := hnx2 k' hk'
          rw [if_pos (by omega)] at this
          exact this
  · have hall : ∀ i (hi : i < rs.length), colOk l.length rs[i].l = true := fun i hi => hb i hi (by omega)
    have hj : j = rs.length := by omega
    rw [List.take_of_length_le (by rw [hclen]; omega)] at hnx
    refine .callV (c_eqLens p (some ⟨g9, 0, none⟩) cp l.length l nx (by omega) hnl) (fun g => ⟨hp.1.mono g.R, hro.reads g⟩) (.ret rfl ?_) (by rw [hnl]; rfl)
    ((try simp only [evE, liE, letsOf, letU, snd]); (try simp only [cmE]))
    by_cases h : ∀ k, k < l.length → wl (l.map (·.w)) k = labAt nx k
    · rw [decide_eq_true h, isAl_yes (fun i hi => by rw [hlen]; simpa using hall i (by rw [hclen] at hi; exact hi)) (fun k hk => by rw [hnx k (by rw [hlen] at hk; exact hk), h k (by rw [hlen] at hk; exact hk)])]
    · rw [decide_eq_false h]
      have ⟨k, hk⟩ := Classical.not_forall.1 h
      have ⟨hk, hne⟩ := Classical.not_imp.1 hk
      rw [isAl_row (k := k) (by rw [hlen]; exact hk) (by rw [hnx k hk]; intro e; exact hne (Option.some.inj e).symm)]
theorem c_Check (p pc : Option Addr) (cp cc : Nat) (l : List WD) (rs : List IR) (hl : l.length < 2 ^ 62) (hr : rs.length < 2 ^ 62) (hok : ∀ x ∈ l, Wok x.w) (hrl : ∀ r ∈ rs, r.l.length < 2 ^ 62) :
    RetP Tryd.prog n_multi_Check [slv p l.length cp, slv pc rs.length cc] (fun R => WordsAt R p l ∧ RowsAt R pc rs) (.int .i64 (checkA (l.map (·.w)) (rs.map (·.l)))) := by
  refine Fn.of S_multi_Check mx [.p p, .i l.length, .i cp, .p pc, .i rs.length, .i cc] rfl rfl fun c hp => .callV (c_words p cp l 8 (by omega) hok) (fun g => hp.1.mono g.R) (.ite (fun h1 => .ret rfl ?_) (fun h1 => ?_)) <;> ((try simp only [evE, liE, letsOf, letU, snd] at h1); (try simp only [cmE] at h1))
  · ((try simp only [evE, liE, letsOf, letU, snd]); (try simp only [cmE])); unfold checkA; rw [if_pos h1]
  · have h8 : l.length ≤ 8 := by
      unfold wordsE at h1
      rw [List.length_map] at h1
      split at h1
      · cases h1
      · omega
    refine .callV (c_aligned p pc cp cc l rs h8 hr hrl) (fun g => ⟨hp.1.mono g.R, hp.2.mono g.R⟩) (.ite (fun h2 => .ret rfl ?_) (fun h2 => .ret rfl ?_))
    · replace h2 : (!isAl (l.map (·.w)) (rs.map (·.l))) = true := h2
      ((try simp only [evE, liE, letsOf, letU, snd]); (try simp only [cmE])); unfold checkA; rw [if_neg (by simp [h1]), if_neg (by simpa using h2)]
    · replace h2 : (!isAl (l.map (·.w)) (rs.map (·.l))) = false := h2
      ((try simp only [evE, liE, letsOf, letU, snd]); (try simp only [cmE])); unfold checkA; rw [if_neg (by simp [h1]), if_pos (by simpa using h2)]
end Go.Proofs.YtialbhieaipcgaaDoor
/- Chapter 18: what a column costs; the reference's Score. -/
namespace Go.Sy
open Go Go.RowKit
def pr18 (ws : List Int) (gap : Int) (a b : List Snd) (i k : Int) : Int := if i < 0 ∧ k < 0 then 0 else if i < 0 ∨ k < 0 then gap else (distC (a.getD i.toNat (0, 0)) (b.getD k.toNat (0, 0)) ws gap).1
theorem diffS_comm (s t : Snd) : diffS s t = diffS t s := by unfold diffS; rw [Bool.and_comm, Nat.xor_comm, Nat.xor_comm s.2]
theorem distC_comm (s t : Snd) (ws : List Int) (gap : Int) : distC s t ws gap = distC t s ws gap := by
  unfold distC
  rw [diffS_comm]
  have h : (valid s = false ∨ valid t = false) ↔ (valid t = false ∨ valid s = false) := or_comm
  simp only [h]
theorem pr18_comm (ws : List Int) (gap : Int) (a b : List Snd) (i k : Int) : pr18 ws gap a b i k = pr18 ws gap b a k i := by
  unfold pr18
  rw [distC_comm]
  have h1 : (i < 0 ∧ k < 0) ↔ (k < 0 ∧ i < 0) := and_comm
  have h2 : (i < 0 ∨ k < 0) ↔ (k < 0 ∨ i < 0) := or_comm
  simp only [h1, h2]
theorem pr18_bound {ws : List Int} {gap : Int} (hc : checkC ws gap = 0) (a b : List Snd) (i k : Int) : 0 ≤ pr18 ws gap a b i k ∧ pr18 ws gap a b i k ≤ 34359738368 := by
  obtain ⟨_, h1, h2, _⟩ := checkC_zero hc
  unfold pr18
  split
  · omega
  · split
    · omega
    · have := distC_pos (x := a.getD i.toNat (0, 0)) (y := b.getD k.toNat (0, 0)) hc
      omega
def colF (ws : List Int) (gap : Int) (W : List (List Snd)) (col : List Int) (i k : Nat) : Int := pr18 ws gap (W.getD i []) (W.getD k []) (labAt col i) (labAt col k)
/-- What a column costs. -/
def columnE (ws : List Int) (gap : Int) (W : List (List Snd)) (col : List Int) : Int := sm col.length fun i => sm i fun k => colF ws gap W col i k
theorem colF_comm (ws : List Int) (gap : Int) (W : List (List Snd)) (col : List Int) (i k : Nat) : colF ws gap W col i k = colF ws gap W col k i := pr18_comm ..
theorem tri_sum (f : Nat → Nat → Int) (n : Nat) : (sm n fun i => sm i fun k => f i k) = sm n fun a => sm n fun b => if a < b then f b a else 0 := by
  induction n with
  | zero => rfl
  | succ n ih =>
    have h1 : (sm (n + 1) fun a => sm (n + 1) fun b => if a < b then f b a else 0) = (sm n fun a => (sm n fun b => if a < b then f b a else 0) + f n a) + sm (n + 1) fun b => if n < b then f b n else 0 := by
      show sm n _ + _ = _
      congr 1
      exact sm_congr fun i hi => by show sm n _ + (if i < n then f n i else 0) = _; rw [if_pos hi]
    rw [h1, sm_add, sm_zero (n := n + 1) fun i hi => if_neg (by omega), ← ih, Int.add_zero]
    rfl
theorem columnE_ref (ws : List Int) (gap : Int) (W : List (List Snd)) (col : List Int) : columnE ws gap W col = sm col.length fun a => sm col.length fun b => if a < b then colF ws gap W col a b else 0 := by
  unfold columnE
  rw [tri_sum]
  exact sm_congr fun i _ => sm_congr fun k _ => by rw [colF_comm]
theorem sm_mono {n m : Nat} {g : Nat → Int} (h : ∀ i, i < m → 0 ≤ g i) (hn : n ≤ m) : sm n g ≤ sm m g := by
  induction m with
  | zero => rw [show n = 0 by omega]; exact Int.le_refl _
  | succ m ih =>
    rcases Nat.lt_or_ge m n with h1 | h1
    · rw [show n = m + 1 by omega]; exact Int.le_refl _
    · have h2 := ih (fun i hi => h i (by omega)) h1
      have h3 := h m (by omega)
      show sm n g ≤ sm m g + g m
      omega
theorem columnE_bound {ws : List Int} {gap : Int} (hc : checkC ws gap = 0) (W : List (List Snd)) (col : List Int) (h8 : col.length ≤ 8) : 0 ≤ columnE ws gap W col ∧ columnE ws gap W col ≤ 2199023255552 := by
  unfold columnE
  have := sm_bound (n := col.length) (g := fun i => sm i fun k => colF ws gap W col i k) (B := 8 * 34359738368) fun i hi => by
    have := sm_bound (n := i) (g := fun k => colF ws gap W col i k) (B := 34359738368) fun k _ => pr18_bound hc _ _ _ _
    refine ⟨this.1, Int.le_trans this.2 ?_⟩
    exact Int.mul_le_mul_of_nonneg_right (by omega) (by decide)
  refine ⟨this.1, Int.le_trans this.2 ?_⟩
  have h2 : (col.length : Int) * (8 * 34359738368) ≤ 8 * (8 * 34359738368) := Int.mul_le_mul_of_nonneg_right (by omega) (by decide)
  omega
/-- Each entry is a gap or a sound's place. -/
def EntOk (W : List (List Snd)) (col : List Int) : Prop := ∀ i, i < col.length → labAt col i = -1 ∨ (0 ≤ labAt col i ∧ labAt col i < wl W i)
def costE (ws : List Int) (gap : Int) (W : List (List Snd)) (cols : List (List Int)) : Int := sm cols.length fun i => columnE ws gap W (cols.getD i [])
def scoreM (ws : List Int) (gap : Int) (W : List (List Snd)) (cols : List (List Int)) : Int × Int := if checkC ws gap ≠ 0 then (0, checkC ws gap) else if checkA W cols ≠ 0 then (0, checkA W cols) else (costE ws gap W cols, 0)
theorem rowGo_ent {n m : Int} (h0 : 0 ≤ n) {xs : List Int} (h : rowGo n xs = some m) : ∀ x ∈ xs, x = -1 ∨ (n ≤ x ∧ x < m) := by
  induction xs generalizing n with
  | nil => intro x hx; cases hx
  | cons y xs ih =>
    intro x hx
    simp only [rowGo] at h
    split at h
    · rename_i e
      rcases List.mem_cons.1 hx with rfl | hx
      · exact .inl e
      · exact ih h0 h x hx
    · split at h
      · rename_i e
        have hb := rowGo_bound h
        rcases List.mem_cons.1 hx with rfl | hx
        · exact .inr (by omega)
        · rcases ih (by omega) h x hx with h1 | h1
          · exact .inl h1
          · exact .inr (by omega)
      · cases h
theorem isAl_ent {W : List (List Snd)} {cols : List (List Int)} (h : isAl W cols = true) : ∀ col ∈ cols, col.length = W.length ∧ EntOk W col := by
  obtain ⟨h1, h2⟩ := isAl_of h
  refine fun col hc => ⟨(h1 col hc).1, fun i hi => ?_⟩
  have hi' : i < W.length := by rw [← (h1 col hc).1]; exact hi
  have := rowGo_ent (by omega) (h2 i hi') (labAt col i) (List.mem_map.2 ⟨col, hc, rfl⟩)
  exact this
theorem checkA_zero {W : List (List Snd)} {cols : List (List Int)} (h : checkA W cols = 0) : W.length ≤ 8 ∧ checkL W = 0 ∧ isAl W cols = true := by
  unfold checkA at h
  split at h
  · rename_i h1; exact absurd h h1
  · rename_i h1
    unfold wordsE at h1
    split at h
    · rename_i h2
      split at h1
      · exact absurd (by decide) h1
      · exact ⟨by omega, by simpa using h1, h2⟩
    · cases h
theorem getD_at {α : Type} (l : List α) (i : Nat) (d : α) (h : i < l.length) : l.getD i d = l[i] := by rw [List.getD_eq_getElem?_getD, List.getElem?_eq_getElem h]; rfl
theorem getD_w (l : List WD) (i : Nat) (h : i < l.length) : (l.map (·.w)).getD i [] = l[i].w := by rw [List.getD_eq_getElem?_getD, List.getElem?_map, List.getElem?_eq_getElem h]; rfl
end Go.Sy
namespace Go.Proofs.YtialbhieaipcgaaDoor
open Go Go.Sy Go.RowKit
end Go.Proofs.YtialbhieaipcgaaDoor
/- Chapter 18: the pricer, Score. -/
namespace Go.Proofs.YtialbhieaipcgaaDoor
open Go Go.Sy Go.RowKit
/-- What the pricer's two variables hold, and what these speak of. -/
def PrK (b1 b0 : Nat) (pc : Option Addr) (cc : Nat) (ws : List Int) (gap : Int) (p : Option Addr) (cp : Nat) (l : List WD) (R : Mv) : Prop :=
  Cells R (some ⟨b1, 0, none⟩) [slv pc ws.length cc, .int .i64 gap] ∧ Cells R (some ⟨b0, 0, none⟩) [slv p l.length cp] ∧ WordsAt R p l ∧ CostsAt R pc ws ∧ TabOk R
theorem PrK.mono {b1 b0 : Nat} {pc : Option Addr} {cc : Nat} {ws : List Int} {gap : Int} {p : Option Addr} {cp : Nat} {l : List WD} {R S : Mv} (h : PrK b1 b0 pc cc ws gap p cp l R) (hle : R.le S) : PrK b1 b0 pc cc ws gap p cp l S :=
  ⟨h.1.mono hle, h.2.1.mono hle, h.2.2.1.mono hle, h.2.2.2.1.mono hle, h.2.2.2.2.mono hle⟩
/-- A function that tells what a column costs. -/
structure PrV (fv : Value) (K : Mv → Prop) (okc : List Int → Prop) (cost : List Int → Int) : Prop where
  one : fv.oneCell' = true
  mono : ∀ {R S : Mv}, K R → R.le S → K S
  run : ∀ (x : IR), okc x.l → x.l.length ≤ x.cap → FnV Tryd.prog fv [x.v] (fun R => K R ∧ Cells R x.p (intsL x.l)) fun v _ _ => v = .int .i64 (cost x.l)
  bound : ∀ x, okc x → 0 ≤ cost x ∧ cost x ≤ 2199023255552
theorem c_pricer1 (x : IR) (b1 b0 : Nat) (pc : Option Addr) (cc : Nat) (ws : List Int) (gap : Int) (p : Option Addr) (cp : Nat) (l : List WD) (hl : l.length ≤ 8) (hok : ∀ x ∈ l, Wok x.w) (hc : checkC ws gap = 0) (hle : x.l.length ≤ x.cap) (hxl : x.l.length ≤ l.length) (he : EntOk (l.map (·.w)) x.l) :
    FnM Tryd.prog n_multi_pricer_1 [x.v, .pointer (some ⟨b1, 0, none⟩), .pointer (some ⟨b0, 0, none⟩)] (fun R => PrK b1 b0 pc cc ws gap p cp l R ∧ Cells R x.p (intsL x.l)) fun v _ _ => v = .int .i64 (columnE ws gap (l.map (·.w)) x.l) := by
  have hf : ∀ a b, 0 ≤ colF ws gap (l.map (·.w)) x.l a b ∧ colF ws gap (l.map (·.w)) x.l a b ≤ 34359738368 := fun a b => pr18_bound hc _ _ _ _
  have hrow : ∀ (n : Nat) a, n ≤ 8 → 0 ≤ (sm n fun b => colF ws gap (l.map (·.w)) x.l a b) ∧ (sm n fun b => colF ws gap (l.map (·.w)) x.l a b) ≤ 8 * 34359738368 := fun n a hn => by
    have := sm_bound (n := n) (g := fun b => colF ws gap (l.map (·.w)) x.l a b) (B := 34359738368) fun b _ => by have := hf a b; omega
    exact ⟨this.1, Int.le_trans this.2 (Int.mul_le_mul_of_nonneg_right (by omega) (by decide))⟩
  refine FnM.of S_multi_pricer_1 mx [.p x.p, .i x.l.length, .i x.cap, .p (some ⟨b1, 0, none⟩), .p (some ⟨b0, 0, none⟩)] rfl rfl fun c hp => .chk (by ((try simp only [evE, liE, letsOf, letU, snd]); (try simp only [cmE])); omega) ?_
  obtain ⟨⟨k1, k2, k3, k4, k5⟩, kx⟩ := hp
  unfold columnE
  refine .loop (fun n us _ => ∃ i : Nat, i ≤ x.l.length ∧ us = [.i (sm i fun i => sm i fun k => colF ws gap (l.map (·.w)) x.l i k), .i i] ∧ n = x.l.length - i) x.l.length ⟨0, Nat.zero_le _, rfl, rfl⟩ ?_
  rintro n _ m _ ⟨i, hi, rfl, rfl⟩
  refine .env (by (try simp only [liE, letsOf, letU, snd, List.append_nil]); rfl) (.ite (fun h1 => ?_) (fun h1 => .ret rfl ?_)) <;> ((try simp only [evE, liE, letsOf, letU, snd] at h1); (try simp only [cmE] at h1))
  · have hi : i < x.l.length := by omega
    have hA := sm_bound (n := i) (g := fun i => sm i fun k => colF ws gap (l.map (·.w)) x.l i k) (B := 8 * 34359738368) fun a ha => hrow a a (by omega)
    have hs1 : (sm (i + 1) fun i => sm i fun k => colF ws gap (l.map (·.w)) x.l i k) = (sm i fun i => sm i fun k => colF ws gap (l.map (·.w)) x.l i k) + sm i fun k => colF ws gap (l.map (·.w)) x.l i k := rfl
    generalize hS : (sm i fun i => sm i fun k => colF ws gap (l.map (·.w)) x.l i k) = S at hA hs1
    have hA2 : S ≤ 8 * (8 * 34359738368) := Int.le_trans hA.2 (Int.mul_le_mul_of_nonneg_right (by omega) (by decide))
    refine .elem1 (.int .i64 (labAt x.l i)) (intsL x.l) i x.l.length rfl rfl hi (fun g => kx.mono g.R) (intsL_at _ _ hi) (.env (by (try simp only [liE, letsOf, letU, snd, List.append_nil]); rfl) (.chk (by ((try simp only [evE, liE, letsOf, letU, snd]); (try simp only [cmE])); omega) (.chk (by ((try simp only [evE, liE, letsOf, letU, snd]); (try simp only [cmE])); omega) ?_)))
    refine .loop (fun n us _ => ∃ k : Nat, k ≤ i ∧ us = [.i (S + sm k fun k => colF ws gap (l.map (·.w)) x.l i k), .i k] ∧ n = i - k) i ⟨0, Nat.zero_le _, by (simp only [evE, liE, letsOf, letU, snd, Sh.uss, Sh.us, atAddr, map_add0, List.append_nil]); show _ = [U.i (S + 0), U.i ((0 : Nat) : Int)]; rw [Int.add_zero]; rfl, rfl⟩ ?_
    rintro n2 _ m2 _ ⟨k, hk, rfl, rfl⟩
    refine .env (by (try simp only [liE, letsOf, letU, snd, List.append_nil]); rfl) (.ite (fun h2 => ?_) (fun h2 => .again rfl ⟨x.l.length - (i + 1), by omega, i + 1, by omega, ?_, rfl⟩)) <;> ((try simp only [evE, liE, letsOf, letU, snd] at h2); (try simp only [cmE] at h2))
    · have hk : k < i := by omega
      have hr := hrow k i (by omega)
      have hfk := hf i k
      have hs2 : (sm (k + 1) fun k => colF ws gap (l.map (·.w)) x.l i k) = (sm k fun k => colF ws gap (l.map (·.w)) x.l i k) + colF ws gap (l.map (·.w)) x.l i k := rfl
      have hei := he i hi
      have hek := he k (by omega)
      have hci : colF ws gap (l.map (·.w)) x.l i k = pr18 ws gap l[i].w l[k].w (labAt x.l i) (labAt x.l k) := by unfold colF; rw [getD_w _ _ (by omega), getD_w _ _ (by omega)]
      rw [wl_at l (by omega)] at hei hek
      refine .elemM (.int .i64 (labAt x.l k)) (intsL x.l) k i rfl rfl hk (fun g => kx.mono g.R) (intsL_at _ _ (by omega)) (.env (by (try simp only [liE, letsOf, letU, snd, List.append_nil]); rfl) (.ite (fun h3 => .again rfl ⟨i - (k + 1), by omega, k + 1, by omega, ?_, rfl⟩) (fun h3 => .ite (fun h4 => .chk rfl ?_) (fun h4 => ?_)))) <;> ((try simp only [evE, liE, letsOf, letU, snd] at h3); (try simp only [cmE] at h3))
      · have h0 : colF ws gap (l.map (·.w)) x.l i k = 0 := by rw [hci]; unfold pr18; rw [if_pos (by omega)]
        (simp only [evE, liE, letsOf, letU, snd, Sh.uss, Sh.us, atAddr, map_add0, List.append_nil]); rw [add_i64 k (by omega), hs2, h0, Int.add_zero]
      · ((try simp only [evE, liE, letsOf, letU, snd] at h4); (try simp only [cmE] at h4))
        have h0 : colF ws gap (l.map (·.w)) x.l i k = gap := by rw [hci]; unfold pr18; rw [if_neg (by omega), if_pos (by omega)]
        refine .load1 (.int .i64 gap) _ _ 1 rfl rfl (fun g => k1.mono g.R) rfl (.env (by (try simp only [liE, letsOf, letU, snd, List.append_nil]); rfl) (.again rfl ⟨i - (k + 1), by omega, k + 1, by omega, ?_, rfl⟩))
        (simp only [evE, liE, letsOf, letU, snd, Sh.uss, Sh.us, atAddr, map_add0, List.append_nil]); rw [add_i64 k (by omega), hs2, h0, addI (by omega) (by omega), Int.add_assoc]
      · ((try simp only [evE, liE, letsOf, letU, snd] at h4); (try simp only [cmE] at h4))
        obtain ⟨I, hI⟩ : ∃ I : Nat, labAt x.l i = I := ⟨(labAt x.l i).toNat, by omega⟩
        obtain ⟨J, hJ⟩ : ∃ J : Nat, labAt x.l k = J := ⟨(labAt x.l k).toNat, by omega⟩
        have hIl : I < l[i].w.length := by omega
        have hJl : J < l[k].w.length := by omega
        have hd : colF ws gap (l.map (·.w)) x.l i k = (distC l[i].w[I] l[k].w[J] ws gap).1 := by
          rw [hci]; unfold pr18; rw [if_neg (by omega), if_neg (by omega), hI, hJ]
          show (distC (l[i].w.getD I (0, 0)) (l[k].w.getD J (0, 0)) ws gap).1 = _
          rw [getD_at _ _ _ hIl, getD_at _ _ _ hJl]
        have hmi : l[i] ∈ l := List.getElem_mem (by omega)
        have hmk : l[k] ∈ l := List.getElem_mem (by omega)
        refine .loadS [slv p l.length cp] 0 p l.length cp rfl rfl (fun g => k2.mono g.R) (.env (by (try simp only [liE, letsOf, letU, snd, List.append_nil]); rfl) (.loadWD l i (by omega) (fun g => k3.1.mono g.R) (.env (by (try simp only [liE, letsOf, letU, snd, List.append_nil]); rfl) (.loadW l[i].w I hIl (fun g => (k3.2 _ hmi).mono g.R) (hI := by show labAt x.l i = _; exact hI) (.env (by (try simp only [liE, letsOf, letU, snd, List.append_nil]); rfl) ?_)))))
        refine .loadS [slv p l.length cp] 0 p l.length cp rfl rfl (fun g => k2.mono g.R) (.env (by (try simp only [liE, letsOf, letU, snd, List.append_nil]); rfl) (.loadWD l k (by omega) (fun g => k3.1.mono g.R) (.env (by (try simp only [liE, letsOf, letU, snd, List.append_nil]); rfl) (.loadW l[k].w J hJl (fun g => (k3.2 _ hmk).mono g.R) (hI := by show labAt x.l k = _; exact hJ) (.env (by (try simp only [liE, letsOf, letU, snd, List.append_nil]); rfl) ?_)))))
        refine .loadCost [slv pc ws.length cc, .int .i64 gap] 0 pc ws.length cc gap rfl rfl rfl (fun g => k1.mono g.R) (.env (by (try simp only [liE, letsOf, letU, snd, List.append_nil]); rfl) (.callV (c_dist l[i].w[I] l[k].w[J] pc cc ws gap ((hok _ hmi).at hIl) ((hok _ hmk).at hJl)) (fun g => ⟨k4.mono g.R, k5.mono g.R⟩) (.env (by (try simp only [liE, letsOf, letU, snd, List.append_nil]); rfl) (.again rfl ⟨i - (k + 1), by omega, k + 1, by omega, ?_, rfl⟩))))
        (simp only [evE, liE, letsOf, letU, snd, Sh.uss, Sh.us, atAddr, map_add0, List.append_nil]); rw [add_i64 k (by omega), hs2, hd, addI (by omega) (by omega), Int.add_assoc]
    · have hk : k = i := by omega
      subst hk
      (simp only [evE, liE, letsOf, letU, snd, Sh.uss, Sh.us, atAddr, map_add0, List.append_nil]); rw [add_i64 k (by omega), hs1]
  · have hi : i = x.l.length := by omega
    subst hi; rfl
theorem c_pricer (p pc : Option Addr) (cp cc : Nat) (l : List WD) (ws : List Int) (gap : Int) : FnM Tryd.prog n_multi_pricer [slv p l.length cp, costs pc ws.length cc gap] (fun _ => True) fun v mq _ => ∃ b1 b0, v = .func (.func n_multi_pricer_1) #[] #[.pointer (some ⟨b1, 0, none⟩), .pointer (some ⟨b0, 0, none⟩)] ∧
    Cells mq.mv (some ⟨b1, 0, none⟩) [slv pc ws.length cc, .int .i64 gap] ∧ Cells mq.mv (some ⟨b0, 0, none⟩) [slv p l.length cp] :=
  FnM.of S_multi_pricer mx [.p p, .i l.length, .i cp, .p pc, .i ws.length, .i cc, .i gap] rfl rfl fun c _ => .alloc fun b0 => .alloc fun b1 => .retL rfl fun g => ⟨b1, b0, rfl, by
    have h := g.nd
    simp at h
    refine ⟨Mem.mv_cells (e := 26) ?_, Mem.mv_cells (e := 22) ?_⟩
    · show Mem.upd _ b0 _ b1 = _
      rw [Mem.upd_other _ _ (fun e => h e.symm)]
      exact Mem.upd_same ..
    · exact Mem.upd_same ..⟩
/-- The pricer's function. -/
theorem PrV.of {b1 b0 : Nat} {pc : Option Addr} {cc : Nat} {ws : List Int} {gap : Int} {p : Option Addr} {cp : Nat} {l : List WD} (hl : l.length ≤ 8) (hok : ∀ x ∈ l, Wok x.w) (hc : checkC ws gap = 0) :
    PrV (.func (.func n_multi_pricer_1) #[] #[.pointer (some ⟨b1, 0, none⟩), .pointer (some ⟨b0, 0, none⟩)]) (PrK b1 b0 pc cc ws gap p cp l) (fun col => col.length ≤ l.length ∧ EntOk (l.map (·.w)) col) (columnE ws gap (l.map (·.w))) :=
  ⟨rfl, fun h hle => h.mono hle, fun x hx hle => .of (args := [x.v]) (cap := [.pointer (some ⟨b1, 0, none⟩), .pointer (some ⟨b0, 0, none⟩)]) (by kernel_rfl) (c_pricer1 x b1 b0 pc cc ws gap p cp l hl hok hc hle hx.1 hx.2), fun x hx => columnE_bound hc _ _ (by have := hx.1; omega)⟩
def totM (cost : List Int → Int) (cols : List (List Int)) : Int := sm cols.length fun i => cost (cols.getD i [])
theorem totM_bound {okc : List Int → Prop} {cost : List Int → Int} (hb : ∀ x, okc x → 0 ≤ cost x ∧ cost x ≤ 2199023255552) {cols : List (List Int)} (hr : cols.length ≤ 1048576) (he : ∀ x ∈ cols, okc x) : 0 ≤ totM cost cols ∧ totM cost cols ≤ 1048576 * 2199023255552 := by
  have := sm_bound (n := cols.length) (g := fun i => cost (cols.getD i [])) (B := 2199023255552) fun i hi => hb _ (by rw [getD_at _ _ _ hi]; exact he _ (List.getElem_mem hi))
  exact ⟨this.1, Int.le_trans this.2 (Int.mul_le_mul_of_nonneg_right (by omega) (by decide))⟩
theorem c_total (fv : Value) (K : Mv → Prop) (okc : List Int → Prop) (cost : List Int → Int) (hv : PrV fv K okc cost) (pc : Option Addr) (cc : Nat) (rs : List IR) (hr : rs.length ≤ 1048576) (he : ∀ r ∈ rs, okc r.l ∧ r.l.length ≤ r.cap) :
    RetP Tryd.prog n_multi_total [slv pc rs.length cc, fv] (fun R => K R ∧ RowsAt R pc rs) (.int .i64 (totM cost (rs.map (·.l)))) := by
  have hclen : (rs.map (·.l)).length = rs.length := List.length_map _
  refine Fn.of S_multi_total mx [.p pc, .i rs.length, .i cc, .v fv] (by simp [Sh.eats, Sh.eat, eatV, eatP, eatS, hv.one]) rfl fun c hp => .chk (by ((try simp only [evE, liE, letsOf, letU, snd]); (try simp only [cmE])); omega) ?_
  unfold totM
  rw [hclen]
  refine .loop (fun n us _ => ∃ a : Nat, a ≤ rs.length ∧ us = [.i (sm a fun i => cost ((rs.map (·.l)).getD i [])), .i a] ∧ n = rs.length - a) rs.length ⟨0, Nat.zero_le _, rfl, rfl⟩ ?_
  rintro n _ m _ ⟨a, ha, rfl, rfl⟩
  refine .env (by (try simp only [liE, letsOf, letU, snd, List.append_nil]); rfl) (.ite (fun h1 => ?_) (fun h1 => .ret rfl ?_)) <;> ((try simp only [evE, liE, letsOf, letU, snd] at h1); (try simp only [cmE] at h1))
  · have ha : a < rs.length := by omega
    obtain ⟨h2, h3⟩ := he _ (List.getElem_mem ha)
    refine .loadSl (rs.map IR.v) a rs.length rs[a].p rs[a].l.length rs[a].cap ha (row_at rs a ha) (fun g => hp.2.1.mono g.R) (.env (by (try simp only [liE, letsOf, letU, snd, List.append_nil]); rfl) (.callvR (hv.run rs[a] h2 h3) (fun g => ⟨hv.mono hp.1 g.R, (hp.2.2 _ (List.getElem_mem ha)).mono g.R⟩) (fun m' _ => .env (by (try simp only [liE, letsOf, letU, snd, List.append_nil]); rfl) (.again rfl ⟨rs.length - (a + 1), by omega, a + 1, by omega, ?_, rfl⟩))))
    have hA := sm_bound (n := a) (g := fun i => cost ((rs.map (·.l)).getD i [])) (B := 2199023255552) fun i hi => by
      have hi' : i < rs.length := by omega
      refine hv.bound _ ?_
      rw [getD_at _ _ _ (by rw [hclen]; exact hi'), List.getElem_map]; exact (he _ (List.getElem_mem hi')).1
    have hA2 := Int.le_trans hA.2 (Int.mul_le_mul_of_nonneg_right (show (a : Int) ≤ 1048576 by omega) (by decide))
    have hB := hv.bound _ h2
    have e2 : (sm (a + 1) fun i => cost ((rs.map (·.l)).getD i [])) = (sm a fun i => cost ((rs.map (·.l)).getD i [])) + cost rs[a].l := by
      show sm a _ + cost _ = _
      rw [getD_at _ _ _ (by rw [hclen]; exact ha), List.getElem_map]
    (simp only [evE, liE, letsOf, letU, snd, Sh.uss, Sh.us, atAddr, map_add0, List.append_nil]); rw [add_i64 a (by omega), e2, addI (by omega) (by omega)]
  · have ha : a = rs.length := by omega
    subst ha; rfl
def firstE : List Int → Int
  | [] => 0
  | e :: l => if e ≠ 0 then e else firstE l
/-- The first error of some functions. -/
theorem c_first (K : Mv → Prop) (hm : ∀ {R S : Mv}, K R → R.le S → K S) (fs : List (Value × Int)) (q : Option Addr) (cq : Nat) (hl : fs.length < 2 ^ 62) (h1 : ∀ f ∈ fs, f.1.oneCell' = true) (hf : ∀ f ∈ fs, FnV Tryd.prog f.1 [] K fun v _ _ => v = .int .i64 f.2) :
    RetP Tryd.prog n_multi_first [slv q fs.length cq] (fun R => Cells R q (fs.map (·.1)) ∧ K R) (.int .i64 (firstE (fs.map (·.2)))) := by
  refine Fn.of S_multi_first mx [.p q, .i fs.length, .i cq] rfl rfl fun c hp => .chk (by ((try simp only [evE, liE, letsOf, letU, snd]); (try simp only [cmE])); omega) ?_
  refine .loop (fun n us _ => ∃ (e : Int) (j : Nat), j ≤ fs.length ∧ us = [.i e, .i j] ∧ n = fs.length - j ∧ firstE (fs.map (·.2)) = firstE ((fs.drop j).map (·.2))) fs.length ⟨0, 0, Nat.zero_le _, rfl, rfl, rfl⟩ ?_
  rintro n _ m _ ⟨e, j, hj, rfl, rfl, hb⟩
  refine .env (by (try simp only [liE, letsOf, letU, snd, List.append_nil]); rfl) (.ite (fun h2 => ?_) (fun h2 => .ret rfl ?_)) <;> ((try simp only [evE, liE, letsOf, letU, snd] at h2); (try simp only [cmE] at h2))
  · have hj : j < fs.length := by omega
    rw [List.drop_eq_getElem_cons hj, List.map_cons, firstE] at hb
    have hmem := List.getElem_mem hj
    refine .elem [.v fs[j].1] (fs.map (·.1)) j fs.length rfl rfl hj (by simp [Sh.eats, Sh.eat, eatV, eatP, eatS, h1 _ hmem]) (fun g => hp.1.mono g.R) (by rw [List.length_map, Nat.mul_one]; exact hj) (fun q' v hv => ?_) (.env (by (try simp only [liE, letsOf, letU, snd, List.append_nil]); rfl) (.callvR (hf _ hmem) (fun g => hm hp.2 g.R) (fun m' _ => .env (by (try simp only [liE, letsOf, letU, snd, List.append_nil]); rfl) (.ite (fun h3 => .ret rfl ?_) (fun h3 => .again rfl ⟨fs.length - (j + 1), by omega, e, j + 1, by omega, ?_, rfl, ?_⟩)))))
    · match q', hv with
      | 0, hv =>
        rw [Nat.mul_one, Nat.add_zero, List.getElem?_map, List.getElem?_eq_getElem hj]
        exact hv
    · ((try simp only [evE, liE, letsOf, letU, snd] at h3); (try simp only [cmE] at h3))
      rw [hb, if_pos h3]; rfl
    · (simp only [evE, liE, letsOf, letU, snd, Sh.uss, Sh.us, atAddr, map_add0, List.append_nil]); rw [add_i64 j (by omega)]
    · ((try simp only [evE, liE, letsOf, letU, snd] at h3); (try simp only [cmE] at h3))
      rw [hb, if_neg (by simp [h3])]
  · rw [hb, List.drop_of_length_le (by omega)]; rfl
end Go.Proofs.YtialbhieaipcgaaDoor
/- Chapter 18: Score. -/
namespace Go.Sy
open Go Go.RowKit
theorem FnV.weak {P : Program} {fv : Value} {args : List Value} {pre pre' : Mv → Prop} {Q : Value → Mem → Mv → Prop} (h : FnV P fv args pre Q) (hp : ∀ R, pre' R → pre R) : FnV P fv args pre' Q := fun w R hR hx => h w R hR (hp R hx)
end Go.Sy
namespace Go.Proofs.YtialbhieaipcgaaDoor
open Go Go.Sy Go.RowKit
theorem c_score1 (b2 : Nat) (pc : Option Addr) (cc : Nat) (ws : List Int) (gap : Int) : FnM Tryd.prog n_multi_Score_1 [.pointer (some ⟨b2, 0, none⟩)] (fun R => Cells R (some ⟨b2, 0, none⟩) [slv pc ws.length cc, .int .i64 gap] ∧ CostsAt R pc ws) fun v _ _ => v = .int .i64 (checkC ws gap) :=
  FnM.of S_multi_Score_1 mx [.p (some ⟨b2, 0, none⟩)] rfl rfl fun c hp => .loadCost [slv pc ws.length cc, .int .i64 gap] 0 pc ws.length cc gap rfl rfl rfl (fun g => hp.1.mono g.R) (.env (by (try simp only [liE, letsOf, letU, snd, List.append_nil]); rfl) (.callV (c_checkCosts pc cc ws gap) (fun g => hp.2.mono g.R) (.ret rfl rfl)))
theorem c_score2 (b0 b1 : Nat) (p pc : Option Addr) (cp cc : Nat) (l : List WD) (rs : List IR) (hl : l.length < 2 ^ 62) (hr : rs.length < 2 ^ 62) (hok : ∀ x ∈ l, Wok x.w) (hrl : ∀ r ∈ rs, r.l.length < 2 ^ 62) : FnM Tryd.prog n_multi_Score_2 [.pointer (some ⟨b0, 0, none⟩), .pointer (some ⟨b1, 0, none⟩)] (fun R => Cells R (some ⟨b0, 0, none⟩) [slv p l.length cp] ∧ Cells R (some ⟨b1, 0, none⟩) [slv pc rs.length cc] ∧ WordsAt R p l ∧ RowsAt R pc rs) fun v _ _ => v = .int .i64 (checkA (l.map (·.w)) (rs.map (·.l))) :=
  FnM.of S_multi_Score_2 mx [.p (some ⟨b0, 0, none⟩), .p (some ⟨b1, 0, none⟩)] rfl rfl fun c hp => .loadS [slv p l.length cp] 0 p l.length cp rfl rfl (fun g => hp.1.mono g.R) (.env (by (try simp only [liE, letsOf, letU, snd, List.append_nil]); rfl) (.loadS [slv pc rs.length cc] 0 pc rs.length cc rfl rfl (fun g => hp.2.1.mono g.R) (.env (by (try simp only [liE, letsOf, letU, snd, List.append_nil]); rfl) (.callV (c_Check p pc cp cc l rs hl hr hok hrl) (fun g => ⟨hp.2.2.1.mono g.R, hp.2.2.2.mono g.R⟩) (.ret rfl rfl)))))
theorem costE_tot (ws : List Int) (gap : Int) (W : List (List Snd)) (cols : List (List Int)) : totM (columnE ws gap W) cols = costE ws gap W cols := rfl
theorem c_Score (p pcol pc : Option Addr) (cp ccol cc : Nat) (l : List WD) (rs : List IR) (ws : List Int) (gap : Int) (hl : l.length < 2 ^ 62) (hok : ∀ x ∈ l, Wok x.w) (hr : rs.length ≤ 1048576) (hrl : ∀ r ∈ rs, r.l.length < 2 ^ 62) (hrc : ∀ r ∈ rs, r.l.length ≤ r.cap) :
    RetP Tryd.prog n_multi_Score [slv p l.length cp, slv pcol rs.length ccol, costs pc ws.length cc gap] (fun R => WordsAt R p l ∧ RowsAt R pcol rs ∧ CostsAt R pc ws ∧ TabOk R) (.tuple #[.int .i64 (scoreM ws gap (l.map (·.w)) (rs.map (·.l))).1, .int .i64 (scoreM ws gap (l.map (·.w)) (rs.map (·.l))).2]) := by
  refine Fn.of S_multi_Score mx [.p p, .i l.length, .i cp, .p pcol, .i rs.length, .i ccol, .p pc, .i ws.length, .i cc, .i gap] rfl rfl fun c hp => .alloc fun b0 => .alloc fun b1 => .alloc fun b2 => .alloc fun b3 => ?_
  have kf := c_first (fun R => Cells R (some ⟨b2, 0, none⟩) [slv pc ws.length cc, .int .i64 gap] ∧ Cells R (some ⟨b0, 0, none⟩) [slv p l.length cp] ∧ Cells R (some ⟨b1, 0, none⟩) [slv pcol rs.length ccol] ∧ WordsAt R p l ∧ RowsAt R pcol rs ∧ CostsAt R pc ws)
    (fun h hle => ⟨h.1.mono hle, h.2.1.mono hle, h.2.2.1.mono hle, h.2.2.2.1.mono hle, h.2.2.2.2.1.mono hle, h.2.2.2.2.2.mono hle⟩)
    [(.func (.func n_multi_Score_1) #[] #[.pointer (some ⟨b2, 0, none⟩)], checkC ws gap), (.func (.func n_multi_Score_2) #[] #[.pointer (some ⟨b0, 0, none⟩), .pointer (some ⟨b1, 0, none⟩)], checkA (l.map (·.w)) (rs.map (·.l)))] (some ⟨b3, 0, none⟩) 2 (show 2 < 2 ^ 62 by decide)
    (by simp [Value.oneCell'])
    (by
      intro f hf
      rcases List.mem_cons.1 hf with rfl | hf
      · exact .weak (.of (args := []) (cap := [.pointer (some ⟨b2, 0, none⟩)]) (by kernel_rfl) (c_score1 b2 pc cc ws gap)) fun R h => ⟨h.1, h.2.2.2.2.2⟩
      · rw [List.mem_singleton] at hf
        subst hf
        exact .weak (.of (args := []) (cap := [.pointer (some ⟨b0, 0, none⟩), .pointer (some ⟨b1, 0, none⟩)]) (by kernel_rfl) (c_score2 b0 b1 p pcol cp ccol l rs hl (by omega) hok hrl)) fun R h => ⟨h.2.1, h.2.2.1, h.2.2.2.1, h.2.2.2.2.1⟩)
  refine .callV kf (fun g => ⟨g.cells (j := 3) rfl rfl rfl, g.cells (j := 2) rfl rfl rfl, g.cells (j := 0) rfl rfl rfl, g.cells (j := 1) rfl rfl rfl, hp.1.mono g.R, hp.2.1.mono g.R, hp.2.2.1.mono g.R⟩) (.env (by (try simp only [liE, letsOf, letU, snd, List.append_nil]); rfl) (.ite (fun h1 => .ret rfl ?_) (fun h1 => ?_)))
  · ((try simp only [evE, liE, letsOf, letU, snd] at h1); (try simp only [cmE] at h1))
    replace h1 : (if checkC ws gap ≠ 0 then checkC ws gap else if checkA (l.map (·.w)) (rs.map (·.l)) ≠ 0 then checkA (l.map (·.w)) (rs.map (·.l)) else 0) ≠ 0 := h1
    show Value.tuple #[.int .i64 0, .int .i64 (if checkC ws gap ≠ 0 then checkC ws gap else if checkA (l.map (·.w)) (rs.map (·.l)) ≠ 0 then checkA (l.map (·.w)) (rs.map (·.l)) else 0)] = _
    unfold scoreM
    by_cases h2 : checkC ws gap ≠ 0
    · rw [if_pos h2, if_pos h2]
    · rw [if_neg h2, if_neg h2]
      rw [if_neg h2] at h1
      by_cases h3 : checkA (l.map (·.w)) (rs.map (·.l)) ≠ 0
      · rw [if_pos h3, if_pos h3]
      · rw [if_neg h3] at h1; exact absurd rfl h1
  · ((try simp only [evE, liE, letsOf, letU, snd] at h1); (try simp only [cmE] at h1))
    replace h1 : (if checkC ws gap ≠ 0 then checkC ws gap else if checkA (l.map (·.w)) (rs.map (·.l)) ≠ 0 then checkA (l.map (·.w)) (rs.map (·.l)) else 0) = 0 := h1
    have h2 : checkC ws gap = 0 := by
      by_cases h2 : checkC ws gap ≠ 0
      · rw [if_pos h2] at h1; exact h1
      · simpa using h2
    have h3 : checkA (l.map (·.w)) (rs.map (·.l)) = 0 := by
      rw [if_neg (by simp [h2])] at h1
      by_cases h3 : checkA (l.map (·.w)) (rs.map (·.l)) ≠ 0
      · rw [if_pos h3] at h1; exact h1
      · simpa using h3
    obtain ⟨h4, _, h5⟩ := checkA_zero h3
    rw [List.length_map] at h4
    have h6 := isAl_ent h5
    refine .callE (c_pricer p pc cp cc l ws gap) (fun _ => trivial) ?_
    rintro v mq m' hle hqe ⟨d1, d0, rfl, hc1, hc0⟩
    have kt := c_total _ _ _ _ (PrV.of (b1 := d1) (b0 := d0) (pc := pc) (cc := cc) (ws := ws) (gap := gap) (p := p) (cp := cp) h4 hok h2) pcol ccol rs hr fun r hr => ⟨by
      have := h6 r.l (List.mem_map_of_mem hr)
      rw [List.length_map] at this
      exact ⟨by omega, this.2⟩, hrc r hr⟩
    refine ⟨[.v (.func (.func n_multi_pricer_1) #[] #[.pointer (some ⟨d1, 0, none⟩), .pointer (some ⟨d0, 0, none⟩)])], uOk_of rfl, rfl, .env (by (try simp only [liE, letsOf, letU, snd, List.append_nil]); rfl) (.callV kt (fun g => ⟨⟨(hc1.mono hqe.mv).mono g.mv, (hc0.mono hqe.mv).mono g.mv, hp.1.mono g.R, hp.2.2.1.mono g.R, hp.2.2.2.mono g.R⟩, hp.2.1.mono g.R⟩) (.ret rfl ?_))⟩
    rw [costE_tot]
    unfold scoreM
    rw [if_neg (by simp [h2]), if_neg (by simp [h3])]; rfl
end Go.Proofs.YtialbhieaipcgaaDoor
