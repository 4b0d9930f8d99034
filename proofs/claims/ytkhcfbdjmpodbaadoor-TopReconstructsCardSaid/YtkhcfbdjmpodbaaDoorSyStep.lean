/- One operation of the executor is one operation of the run. -/
import Derived.Test.YtkhcfbdjmpodbaaDoorSyVal
set_option linter.unusedSimpArgs false
set_option linter.unusedVariables false
namespace Go.Sy
open Go

structure Wd (L : List Nat) (ρ : Env) (blks : List Blk) (h : HW) (w : World) : Prop where
  len : L.length = blks.length
  blk : ∀ (j : Nat) b, blks[j]? = some b → w.heap[L.getD j 0]? = some (.cells (SV.dens L ρ b.cells).toArray b.elem (0, 0))
  nd : L.Nodup
  good : ∀ b ∈ L, ¬ h.own b
  hold : h.H w
def cellsAt (w : World) (ad : Option Addr) (vs : List Value) : Prop :=
  ∃ b o, ad = some ⟨b, o, none⟩ ∧ ∀ (j : Nat) v, vs[j]? = some v → w.cell? ⟨b, o + j, none⟩ = some v

def bigVal (n : Option (Nat × Nat)) (b : Nat) : Value := match n with | none => .pointer (some ⟨b, 0, none⟩) | some (l, c) => .slice (some ⟨b, 0, none⟩) l c
def StepOk (P : Program) (L : List Nat) (ρ : Env) (blks : List Blk) (h : HW) (o : Oper) (a : Act) : Res → Prop
  | .val x => ∃ v, Rel L ρ x v ∧ ∀ w, (kd o.op = .load → Wd L ρ blks h w) → (execOp a.eval o).run P w = .ok (.value v) w
  | .chk c x => c.eval ρ = true → ∃ v, Rel L ρ x v ∧ ∀ w, (kd o.op = .load → Wd L ρ blks h w) → (execOp a.eval o).run P w = .ok (.value v) w
  | .cases i l => ∀ (j : Nat) x, l[j]? = some x → i.eval ρ = j → ∃ v, Rel L ρ x v ∧ ∀ w, (kd o.op = .load → Wd L ρ blks h w) → (execOp a.eval o).run P w = .ok (.value v) w
  | .allocc t n cs => ∀ w, (execOp a.eval o).run P w = .ok (.value (bigVal n w.heap.size)) (w.alloc (.cells (SV.dens L ρ cs).toArray t (0, 0)))
  | .allocb t n => ∀ w, (execOp a.eval o).run P w = .ok (.value (bigVal n w.heap.size)) (w.alloc (.cells (bigCells P t (n.map (·.2))).toArray t (0, 0)))
  | .makev e bytes l c => ∀ n m : Nat, l.eval ρ = n → c.eval ρ = m → n ≤ m → bytes * m ≤ 281474976710656 → m ≤ 9223372036854775807 → ∀ w, (execOp a.eval o).run P w = .ok (.value (.slice (some ⟨w.heap.size, 0, none⟩) n m)) (w.alloc (.cells (bigCells P e (some m)).toArray e (0, 0)))
  | .alloc b x => ∀ w, (execOp a.eval o).run P w = .ok (.value ((x.sv L.length).den (L ++ [w.heap.size]) ρ)) (w.alloc (.cells (SV.dens L ρ b.cells).toArray b.elem (0, 0)))
  | .upd b off cs => ∃ blk, blks[b]? = some blk ∧ off + cs.length ≤ blk.cells.length ∧ (∀ w, Wd L ρ blks h w → (execOp a.eval o).run P w = .ok .skip (w.setRow (L.getD b 0) (putAt (SV.dens L ρ blk.cells) off (SV.dens L ρ cs)).toArray))
  | .load i off sh agg => ∀ (vs : List Value) (w : World), vs.length = sh.length → cellsAt w (atAddr ρ i (off.eval ρ)) vs → (execOp a.eval o).run P w = .ok (.value (if agg = true then .agg vs.toArray else vs.headD Go.undef)) w
  | .store i off cs => ∀ (w : World) b o' cur e, atAddr ρ i (off.eval ρ) = some ⟨b, o', none⟩ → w.heap[b]? = some (.cells cur e (0, 0)) → o' + cs.length ≤ cur.size →
      (execOp a.eval o).run P w = .ok .skip (w.setRow b (putAt cur.toList o' (SV.dens L ρ cs)).toArray)
  | .call f args _ => (∀ x ∈ args, x.firm = true) → ∀ w, (execOp a.eval o).run P w = .ok (.enter f (SV.dens L ρ args).toArray) w
  | .callv f args _ => f.firm = true → (∀ x ∈ args, x.firm = true) → ∀ w, (execOp a.eval o).run P w = (do let d ← Deferred.ofValue (f.den L ρ) (SV.dens L ρ args).toArray; invoke d.target d.args).run P w
  | _ => True

theorem StepOk.big {P : Program} {L : List Nat} {ρ : Env} {blks : List Blk} {h : HW} {o : Oper} {a : Act} (m : Nat) (d : Option Tmp) {r : Res} (hr : StepOk P L ρ blks h o a r) : StepOk P L ρ blks h o a (Res.big m d r) := by
  unfold Res.big
  split
  · split
    · intro w
      have := hr w
      simp only [New.sv, SV.den] at this
      rw [show (L ++ [w.heap.size]).getD L.length 0 = w.heap.size by simp [List.getD]] at this
      exact this
    · exact hr
  · split
    · intro w
      have := hr w
      simp only [New.sv, SV.den] at this
      rw [show (L ++ [w.heap.size]).getD L.length 0 = w.heap.size by simp [List.getD]] at this
      exact this
    · exact hr
  · exact hr
theorem StepOk.iter {P : Program} {L : List Nat} {ρ : Env} {blks : List Blk} {h : HW} {o : Oper} {a : Act} (C : Cfg) {r : Res} (hr : StepOk P L ρ blks h o a r) : StepOk P L ρ blks h o a (Res.iter C o r) := by
  unfold Res.iter
  split
  · trivial
  · split <;> trivial
  · split <;> trivial
  · split
    · split <;> trivial
    · trivial
  · exact hr
theorem StepOk.optB_ext {P : Program} {L : List Nat} {ρ : Env} {blks : List Blk} {h : HW} {o : Oper} {a : Act} (x : Option Sh) :
    StepOk P L ρ blks h o a (optB do pure (.ext (← x))) := by
  cases x <;> trivial
section
variable {P : Program}
theorem zeroCells_spec {t : TypeId} {z : List Value} (h : zeroCells P t = some z) : ∃ i v, P.info? t = some i ∧ i.zero = some v ∧ v.cells.toList = z := by
  unfold zeroCells at h
  cases hi : P.info? t with
  | none => simp [hi] at h
  | some i =>
    cases hz : i.zero with
    | none => simp [hi, hz] at h
    | some v => simp [hi, hz] at h; exact ⟨i, v, rfl, hz, h⟩
theorem run_zeroValue' {t : TypeId} {i : TypeInfo} {v : Value} (w : World) (h : P.info? t = some i) (hz : i.zero = some v) : (zeroValue t).run P w = .ok v w := by
  simp [zeroValue, typeInfo, h, hz]
theorem sizeOf_T {t : TypeId} {i : TypeInfo} (w : World) (h : P.info? t = some i) : (sizeOf t).run P w = .ok (sizeT P t) w := by
  simp [sizeOf, typeInfo, h, sizeT]
theorem run_isAgg {t : TypeId} {d : TypeDesc} (w : World) (h : P.underlying t = some d) : (isAgg t).run P w = .ok (isAggT P t) w := by
  simp only [isAgg, Sem.run_bind, run_underlying h, Result.andThen_ok, isAggT, h]
  cases d <;> rfl
theorem info_of_underlying {t : TypeId} {d : TypeDesc} (h : P.underlying t = some d) : ∃ i, P.info? t = some i := by
  unfold Program.underlying at h
  cases hi : P.info? t with
  | none => simp [hi] at h
  | some i => exact ⟨i, rfl⟩
theorem map_ofValue_dens (L : List Nat) (ρ : Env) (l : List Value) : SV.dens L ρ (l.map ofValue) = l := by
  rw [SV.dens_eq, List.map_map]
  conv => rhs; rw [← List.map_id l]
  exact List.map_congr_left fun v _ => ofValue_den L ρ v
theorem cells_den {L : List Nat} {ρ : Env} (he : EnvOk ρ) {x : SV} {cs : List SV} (h : x.cells = some cs) : (x.den L ρ).cells.toList = SV.dens L ρ cs ∧ x ≠ .junk ∧ (∀ v ∈ SV.dens L ρ cs, v.oneCell' = true) := by
  unfold SV.cells at h
  split at h
  · rename_i l
    split at h
    · rename_i ha
      cases h
      refine ⟨by simp [SV.den, Value.cells], by simp, fun v hv => ?_⟩
      rw [SV.dens_eq] at hv
      obtain ⟨y, hy, rfl⟩ := List.mem_map.1 hv
      exact SV.one_den he (List.all_eq_true.1 ha y hy)
    · cases h
  · split at h
    · rename_i hn ho
      cases h
      have h1 := SV.one_den (L := L) he ho
      refine ⟨?_, by rintro rfl; simp [SV.one] at ho, by simpa [SV.dens] using h1⟩
      have : ∀ v : Value, v.oneCell' = true → v.cells.toList = [v] := by
        intro v hv
        cases v <;> first | rfl | simp [Value.oneCell'] at hv
      simp [SV.dens, this _ h1]
    · cases h
theorem dens_length (L : List Nat) (ρ : Env) (l : List SV) : (SV.dens L ρ l).length = l.length := by simp [SV.dens_eq]
theorem dens_getElem? (L : List Nat) (ρ : Env) (l : List SV) (i : Nat) : (SV.dens L ρ l)[i]? = (l[i]?).map (SV.den L ρ) := by simp [SV.dens_eq]
theorem addr_add2 (a : Addr) (n k : Nat) : (a.add n).add k = a.add (n + k) := by unfold Addr.add; split <;> split <;> simp_all [Nat.add_assoc]
theorem addr_add (b o n : Nat) : (⟨b, o, none⟩ : Addr).add n = ⟨b, o + n, none⟩ := by unfold Addr.add; split <;> simp_all
theorem loadCells_at {w : World} {b o : Nat} {vs : List Value} (h : ∀ (j : Nat) v, vs[j]? = some v → w.cell? ⟨b, o + j, none⟩ = some v) : (loadCells ⟨b, o, none⟩ vs.length).run P w = .ok vs.toArray w :=
  run_loadCells_list w _ vs fun j v hv => by rw [addr_add]; exact h j v hv
theorem run_loadVar' {t : TypeId} {d : TypeDesc} {w : World} {b o : Nat} {vs : List Value} (hu : P.underlying t = some d) (hl : vs.length = sizeT P t) (h1 : isAggT P t = false → vs.length = 1)
    (h : ∀ (j : Nat) v, vs[j]? = some v → w.cell? ⟨b, o + j, none⟩ = some v) : (loadVar t ⟨b, o, none⟩).run P w = .ok (if isAggT P t = true then .agg vs.toArray else vs.headD Go.undef) w := by
  obtain ⟨i, hi⟩ := info_of_underlying hu
  simp only [loadVar, Sem.run_bind, run_isAgg w hu, Result.andThen_ok]
  cases ha : isAggT P t
  · have hv := h1 ha
    match vs, hv with
    | [v], _ =>
      have := h 0 v rfl
      simp only [Nat.add_zero] at this
      simp [this]
  · simp only [if_true, Sem.run_bind, sizeOf_T w hi, Result.andThen_ok, ← hl, loadCells_at h, Sem.run_pure]
theorem partS_type {t : TypeId} {l : List SV} {off : Nat} {x : SV} (h : partS P t l off = some x) : ∃ d, P.underlying t = some d := by
  unfold partS at h
  cases hu : P.underlying t with
  | none => simp [hu] at h
  | some d => exact ⟨d, rfl⟩
theorem partS_spec {L : List Nat} {ρ : Env} {t : TypeId} {l : List SV} {off : Nat} {x : SV} (h : partS P t l off = some x) (w : World) :
    (part t (SV.dens L ρ l).toArray off).run P w = .ok (x.den L ρ) w := by
  obtain ⟨d, hu⟩ := partS_type h
  obtain ⟨i, hi⟩ := info_of_underlying hu
  unfold partS at h
  simp only [hu, Option.isNone_some, Bool.false_eq_true, if_false] at h
  simp only [part, Sem.run_bind, run_isAgg w hu, Result.andThen_ok]
  cases ha : isAggT P t
  · simp only [ha, Bool.false_eq_true, if_false] at h
    simp [dens_getElem?, h]
  · simp only [ha, if_true] at h ⊢
    split at h
    · rename_i hle
      cases h
      simp only [Sem.run_bind, sizeOf_T w hi, Result.andThen_ok, Sem.run_pure, SV.den]
      congr 2
      apply Array.ext'
      simp only [Array.toList_extract, SV.dens_eq, List.map_take, List.map_drop, List.extract_eq_take_drop]
      congr 1
      omega
    · cases h
theorem partS_cells {L : List Nat} {ρ : Env} {t : TypeId} {l : List SV} {off : Nat} {x : SV} (h : partS P t l off = some x) {w : World} {b : Nat} {e : TypeId} {f : Nat × Nat}
    (hb : w.heap[b]? = some (.cells (SV.dens L ρ l).toArray e f)) : (loadVar t ⟨b, off, none⟩).run P w = .ok (x.den L ρ) w := by
  obtain ⟨d, hu⟩ := partS_type h
  obtain ⟨i, hi⟩ := info_of_underlying hu
  have hc : ∀ j, w.cell? ⟨b, j, none⟩ = (l[j]?).map (SV.den L ρ) := fun j => by simp [World.cell?, hb, dens_getElem?]
  unfold partS at h
  simp only [hu, Option.isNone_some, Bool.false_eq_true, if_false] at h
  simp only [loadVar, Sem.run_bind, run_isAgg w hu, Result.andThen_ok]
  cases ha : isAggT P t
  · simp only [ha, Bool.false_eq_true, if_false] at h ⊢
    simp [hc, h]
  · simp only [ha, if_true] at h ⊢
    split at h
    · rename_i hle
      cases h
      have hlen : (SV.dens L ρ ((l.drop off).take (sizeT P t))).length = sizeT P t := by simp [dens_length]; omega
      have := loadCells_at (P := P) (w := w) (b := b) (o := off) (vs := SV.dens L ρ ((l.drop off).take (sizeT P t))) (fun j v hv => by
        rw [hc]
        rw [dens_getElem?, List.getElem?_take] at hv
        split at hv
        · rwa [List.getElem?_drop] at hv
        · simp at hv)
      rw [hlen] at this
      simp only [Sem.run_bind, sizeOf_T w hi, Result.andThen_ok, this, Sem.run_pure, SV.den]
    · cases h
theorem dens_putAt (L : List Nat) (ρ : Env) (l : List SV) (off : Nat) (cs : List SV) : SV.dens L ρ (putAt l off cs) = putAt (SV.dens L ρ l) off (SV.dens L ρ cs) := by
  simp [SV.dens_eq, putAt]
theorem run_storeVar' {t : TypeId} {d : TypeDesc} {w : World} {b o : Nat} {cur : Array Value} {e : TypeId} {v : Value} {vs : List Value} (hu : P.underlying t = some d) (hv : v.cells.toList = vs) (hl : vs.length = sizeT P t)
    (hb : w.heap[b]? = some (.cells cur e (0, 0))) (hle : o + vs.length ≤ cur.size) (h1 : ∀ v ∈ vs, v.oneCell' = true) :
    (storeVar t ⟨b, o, none⟩ v).run P w = .ok () (w.setRow b (putAt cur.toList o vs).toArray) := by
  obtain ⟨i, hi⟩ := info_of_underlying hu
  have hs : v.cells.size = sizeT P t := by rw [← hl, ← hv]; simp
  have := run_storeCells_at (P := P) b o e vs 0 cur w hb (by simpa using hle) h1
  simp only [storeVar, Sem.run_bind, sizeOf_T w hi, Result.andThen_ok, hs, ne_eq, not_true_eq_false, if_false, hv]
  simpa [putAt] using this

/-! '==' -/
theorem fieldsOf_eq {t : TypeId} {fs : Array Field} (h : P.underlying t = some (.struct fs)) : P.fieldsOf t = fs := by simp [Program.fieldsOf, h]
theorem eqS_sound {L : List Nat} {ρ : Env} : ∀ (d : Nat) (t : TypeId) (x y : SV) (e : BT), eqS P d t x y = some e → ∀ D w, d ≤ D → (Op.equalIn D t (x.den L ρ) (y.den L ρ)).run P w = .ok (e.eval ρ) w := by
  intro d
  induction d with
  | zero => intro t x y e h; simp [eqS] at h
  | succ d ih =>
    intro t x y e h D w hD
    obtain ⟨D, rfl⟩ : ∃ D', D = D' + 1 := ⟨D - 1, by omega⟩
    have hD' : d ≤ D := by omega
    unfold eqS at h
    split at h
    · rename_i k0 k a k' b hu
      split at h
      · rename_i hk; subst hk; cases h
        simp only [SV.den, run_equalIn_int w D t k k0 _ _ hu, BT.mkCmp_eval, cm]
      · cases h
    · rename_i a b hu
      cases h
      simp only [SV.den, run_equalIn_bool w D t _ _ hu, BT.mkBeq_eval]
    · rename_i fs xs ys hu
      split at h
      · cases h
      · rename_i hst
        have hst' : P.stoodInHeld t = false := by simpa using hst
        simp only [SV.den]
        rw [run_equalIn_struct w D t _ _ (by rw [fieldsOf_eq hu]; exact hu) hst', fieldsOf_eq hu]
        generalize fs.toList = l at h
        clear hu hst hst'
        induction l generalizing e with
        | nil => simp at h; subst h; simp [Op.eqFields, BT.eval]
        | cons f l ihl =>
          simp only [List.foldr_cons, bind, Option.bind_eq_some_iff] at h
          obtain ⟨r, hr, h⟩ := h
          split at h
          · cases h
          · rename_i hn
            obtain ⟨p, hp, q, hq, z, hz, h⟩ := by simpa only [Option.bind_eq_some_iff] using h
            cases h
            simp only [Op.eqFields, ne_eq, hn, not_false_eq_true, if_true, Sem.run_bind, partS_spec hp, partS_spec hq, Result.andThen_ok, ih _ _ _ _ hz D w hD', Sem.run_ite, Sem.run_pure, BT.mkAnd_eval, ihl r hr]
            cases z.eval ρ <;> simp
    · rename_i n e' xs ys hu
      split at h
      · cases h
      · rename_i hi
        cases hi' : P.info? e' with
        | none => simp [hi'] at hi
        | some i =>
        simp only [SV.den]
        rw [run_equalIn_array w D _ _ hu hi']
        have hc : P.cellsOf e' = sizeT P e' := by simp [Program.cellsOf, sizeT]
        rw [hc]
        generalize List.range n = l at h
        clear hu hi hi' hc
        induction l generalizing e with
        | nil => simp at h; subst h; simp [Op.eqItems, BT.eval]
        | cons j l ihl =>
          simp only [List.foldr_cons, bind, Option.bind_eq_some_iff] at h
          obtain ⟨r, hr, p, hp, q, hq, z, hz, h⟩ := h
          cases h
          simp only [Op.eqItems, Sem.run_bind, partS_spec hp, partS_spec hq, Result.andThen_ok, ih _ _ _ _ hz D w hD', Sem.run_ite, Sem.run_pure, BT.mkAnd_eval, ihl r hr]
          cases z.eval ρ <;> simp
    · cases h

/-! literals -/
theorem foldl_put (off : Nat) : ∀ (vs : List Value) (k : Nat) (arr : Array Value), off + k + vs.length ≤ arr.size →
    (vs.zipIdx k).foldl (fun cs (c, j) => cs.setIfInBounds (off + j) c) arr = (putAt arr.toList (off + k) vs).toArray
  | [], k, arr, _ => by simp [putAt]
  | v :: vs, k, arr, h => by
    simp only [List.length_cons] at h
    simp only [List.zipIdx_cons, List.foldl_cons]
    rw [foldl_put off vs (k + 1) _ (by simp; omega)]
    apply Array.ext'
    simp only [putAt, Array.toList_setIfInBounds]
    have hlt : off + k < arr.toList.length := by simp; omega
    rw [List.set_eq_take_append_cons_drop, if_pos hlt]
    rw [show off + (k + 1) = off + k + 1 by omega]
    have hl : (arr.toList.take (off + k)).length = off + k := by simp; omega
    have h1 : List.take (off + k + 1) (List.take (off + k) arr.toList ++ v :: List.drop (off + k + 1) arr.toList) = List.take (off + k) arr.toList ++ [v] := by
      rw [List.take_append, hl]; simp [List.take_take]
    have h2 : List.drop (off + k + 1 + vs.length) (List.take (off + k) arr.toList ++ v :: List.drop (off + k + 1) arr.toList) = List.drop (off + k + (vs.length + 1)) arr.toList := by
      rw [List.drop_append, hl, List.drop_eq_nil_of_le (by rw [hl]; omega), show off + k + 1 + vs.length - (off + k) = vs.length + 1 by omega]
      simp only [List.drop_succ_cons, List.drop_drop, List.nil_append]
      congr 1; omega
    rw [h1, h2]
    simp
theorem fillS_sound {L : List Nat} {ρ : Env} (he : EnvOk ρ) (place : Nat → Option (Nat × Nat)) {ev : Operand → SV} {a : Act} (hev : ∀ x, Rel L ρ (ev x) (a.eval x)) :
    ∀ (parts : List (Nat × Operand)) (l cs : List SV), fillS place l (parts.map fun (i, x) => (i, ev x)) = some cs →
      Instr.fill place (SV.dens L ρ l).toArray (parts.map fun (i, x) => (i, a.eval x)) = some (SV.dens L ρ cs).toArray
  | [], l, cs, h => by simp [fillS] at h; subst h; simp [Instr.fill]
  | (i, x) :: parts, l, cs, h => by
    simp only [List.map_cons, fillS] at h
    simp only [List.map_cons, Instr.fill]
    cases hp : place i with
    | none => simp [hp] at h
    | some p =>
      obtain ⟨off, size⟩ := p
      cases hc : (ev x).cells with
      | none => simp [hp, hc] at h
      | some c =>
        simp only [hp, hc] at h
        split at h
        · cases h
        · rename_i hn
          simp only [Bool.or_eq_true, decide_eq_true_eq, not_or, Nat.not_lt] at hn
          obtain ⟨hcl, hne, _⟩ := cells_den (L := L) he hc
          have hv : a.eval x = (ev x).den L ρ := (hev x).of_ne hne
          rw [← hv] at hcl
          have hsz : (a.eval x).cells.size = c.length := by rw [← Array.length_toList, hcl, dens_length]
          have hn1 : c.length = size := by
            by_cases e : c.length = size
            · exact e
            · exact absurd (by simpa using e) hn.1
          have hn2 : off + c.length ≤ l.length := hn.2
          have hls : (SV.dens L ρ l).toArray.size = l.length := by simp [dens_length]
          simp only [hsz, hn1, hls, ne_eq, not_true_eq_false, decide_false, Bool.false_or]
          rw [if_neg (by simp; omega)]
          have : (a.eval x).cells.zipIdx.foldl (fun cs (c, j) => cs.setIfInBounds (off + j) c) (SV.dens L ρ l).toArray = (SV.dens L ρ (putAt l off c)).toArray := by
            rw [← Array.foldl_toList, Array.toList_zipIdx, hcl, foldl_put off _ 0 _ (by simp [dens_length]; omega), dens_putAt]
            simp
          rw [this]
          exact fillS_sound he place hev parts _ cs h

theorem run_value {s : Sem Value} {v : Value} {w w' : World} (h : s.run P w = .ok v w') : (do pure (Next.value (← s)) : Sem Next).run P w = .ok (.value v) w' := by
  simp [h]
theorem StepOk.of_none {L : List Nat} {ρ : Env} {blks : List Blk} {h : HW} {o : Oper} {a : Act} {r : Option Res} (hr : ∀ x, r = some x → StepOk P L ρ blks h o a x) : StepOk P L ρ blks h o a (optB r) := by
  cases r with
  | none => trivial
  | some x => exact hr x rfl

section ops
variable {L : List Nat} {ρ : Env} {h : HW} {st : St} {ev : Operand → SV} {a : Act} {dst : Option Tmp} {ty : TypeId} {pos : String} {after : Array Edge} {guard : Option (Nat × Bool)}

theorem step_move {x : Operand} (hev : ∀ x, Rel L ρ (ev x) (a.eval x)) : StepOk P L ρ st.blks h ⟨dst, .move x, ty, pos, after, guard⟩ a (stepOp P st ev ⟨dst, .move x, ty, pos, after, guard⟩) :=
  ⟨a.eval x, hev x, fun _ _ => rfl⟩
theorem step_assign {x : Operand} (hev : ∀ x, Rel L ρ (ev x) (a.eval x)) : StepOk P L ρ st.blks h ⟨dst, .assign x, ty, pos, after, guard⟩ a (stepOp P st ev ⟨dst, .assign x, ty, pos, after, guard⟩) :=
  ⟨a.eval x, hev x, fun _ _ => rfl⟩
theorem step_pick {c x y : Operand} (hev : ∀ x, Rel L ρ (ev x) (a.eval x)) : StepOk P L ρ st.blks h ⟨dst, .pick c x y, ty, pos, after, guard⟩ a (stepOp P st ev ⟨dst, .pick c x y, ty, pos, after, guard⟩) := by
  simp only [stepOp]
  have hc := hev c
  split
  · rename_i e; rw [e] at hc
    have hc' := hc.of_ne (by simp)
    exact ⟨a.eval x, hev x, fun w _ => by simp [execOp, hc', SV.den, BT.eval, asBool]⟩
  · rename_i e; rw [e] at hc
    have hc' := hc.of_ne (by simp)
    exact ⟨a.eval y, hev y, fun w _ => by simp [execOp, hc', SV.den, BT.eval, asBool]⟩
  · rename_i c' _ _ e; rw [e] at hc
    have hc' := hc.of_ne (by simp)
    split
    · rename_i x' y' ex ey
      refine ⟨_, .inr rfl, fun w _ => ?_⟩
      simp only [SV.den, BT.mkPick_eval]
      simp only [SV.den] at hc'
      cases hb : c'.eval ρ
      · have := Rel.under (g := BT.mkNot c') (by rw [BT.mkNot_eval, hb]; rfl) _ (hev y)
        rw [ey] at this
        have hy := this.of_ne (by simp)
        simp [execOp, hc', hb, asBool, hy, SV.den]
      · have := Rel.under (g := c') hb _ (hev x)
        rw [ex] at this
        have hx := this.of_ne (by simp)
        simp [execOp, hc', hb, asBool, hx, SV.den]
    · trivial
  · trivial
theorem step_alloc {t : TypeId} : StepOk P L ρ st.blks h ⟨dst, .alloc t, ty, pos, after, guard⟩ a (stepOp P st ev ⟨dst, .alloc t, ty, pos, after, guard⟩) := by
  refine StepOk.of_none fun r hr => ?_
  simp only [bind, Option.bind_eq_some_iff] at hr
  obtain ⟨z, hz, hr⟩ := hr
  split at hr
  · cases hr
    obtain ⟨i, v, hi, hv, hc⟩ := zeroCells_spec hz
    intro w
    refine run_value ?_
    simp only [Instr.alloc, Sem.run_bind, run_zeroValue' w hi hv, Result.andThen_ok, newVar, newRow, run_newObj, Sem.run_pure, bigVal, bigCells, Option.map_none, hz, Option.getD_some, ← hc]
    rfl
  · cases hr
    obtain ⟨i, v, hi, hv, hc⟩ := zeroCells_spec hz
    intro w
    refine run_value ?_
    simp only [Instr.alloc, Sem.run_bind, run_zeroValue' w hi hv, Result.andThen_ok, newVar, newRow, run_newObj, Sem.run_pure, New.sv, SV.den]
    simp only [List.getD, List.getElem?_append_right (Nat.le_refl _), Nat.sub_self, List.getElem?_cons_zero, Option.getD_some, map_ofValue_dens, ← hc]
    rfl
theorem step_box {t : TypeId} {x : Operand} (he : EnvOk ρ) (hev : ∀ x, Rel L ρ (ev x) (a.eval x)) : StepOk P L ρ st.blks h ⟨dst, .box t x, ty, pos, after, guard⟩ a (stepOp P st ev ⟨dst, .box t x, ty, pos, after, guard⟩) := by
  refine StepOk.of_none fun r hr => ?_
  simp only [bind, Option.bind_eq_some_iff] at hr
  obtain ⟨cs, hcs, hr⟩ := hr
  obtain ⟨hc, hne, _⟩ := cells_den (L := L) he hcs
  have hv : a.eval x = (ev x).den L ρ := (hev x).of_ne hne
  split at hr
  · cases hr
    intro w
    refine run_value ?_
    simp only [Instr.box, Sem.run_bind, newVar, newRow, run_newObj, Result.andThen_ok, Sem.run_pure, hv, ← hc]
    rfl
  cases hr
  intro w
  refine run_value ?_
  simp only [Instr.box, Sem.run_bind, newVar, newRow, run_newObj, Result.andThen_ok, Sem.run_pure, New.sv, SV.den, hv]
  simp only [List.getD, List.getElem?_append_right (Nat.le_refl _), Nat.sub_self, List.getElem?_cons_zero, Option.getD_some, ← hc]
  rfl
theorem step_build {t : TypeId} {parts : Array (Nat × Operand)} (he : EnvOk ρ) (hev : ∀ x, Rel L ρ (ev x) (a.eval x)) : StepOk P L ρ st.blks h ⟨dst, .build t parts, ty, pos, after, guard⟩ a (stepOp P st ev ⟨dst, .build t parts, ty, pos, after, guard⟩) := by
  refine StepOk.of_none fun r hr => ?_
  simp only [bind, Option.bind_eq_some_iff] at hr
  obtain ⟨z, hz, place, hplace, cs, hcs, hr⟩ := hr
  cases hr
  obtain ⟨i, v, hi, hv, hc⟩ := zeroCells_spec hz
  have hf := fillS_sound (L := L) he place hev parts.toList _ cs hcs
  rw [map_ofValue_dens] at hf
  refine ⟨_, .inr rfl, fun w _ => run_value (run_build w t _ _ ?_)⟩
  have hm : (parts.map fun (i, x) => (i, a.eval x)).toList = parts.toList.map fun (i, x) => (i, a.eval x) := by simp
  rw [hm]
  unfold Program.built
  rw [hi]
  have hz' : v.cells = z.toArray := by rw [← hc]
  unfold placeOf at hplace
  split at hplace
  · rename_i fs hu
    split at hplace
    · rename_i hall
      cases hplace
      have hmm : fs.toList.mapM (fun f => (P.info? f.type).map fun i => (f.offset, i.size)) = some (fs.toList.map fun f => (f.offset, sizeT P f.type)) := by
        rw [List.all_eq_true] at hall
        generalize fs.toList = l at hall
        induction l with
        | nil => rfl
        | cons f l ih =>
          have h1 := hall f (by simp)
          obtain ⟨j, hj⟩ := Option.isSome_iff_exists.1 h1
          rw [List.mapM_cons, ih (fun x hx => hall x (by simp [hx]))]
          simp [hj, sizeT]
      simp only [hu, hv, hmm, hz']
      have hp : (fun (i : Nat) => ((fs.toList.map fun (f : Field) => (f.offset, sizeT P f.type)).toArray)[i]?) = fun i => (fs[i]?).map fun (f : Field) => (f.offset, sizeT P f.type) := by
        funext i; simp
      rw [hp]; exact hf
    · cases hplace
  · rename_i n e hu
    split at hplace
    · rename_i hie
      cases hplace
      obtain ⟨j, hj⟩ := Option.isSome_iff_exists.1 hie
      simp only [hu, hv, hj, hz']
      have hs : sizeT P e = j.size := by simp [sizeT, hj]
      rw [hs] at hf; exact hf
    · cases hplace
  · cases hplace

theorem step_load {t : TypeId} {x : Operand} (hev : ∀ x, Rel L ρ (ev x) (a.eval x)) : StepOk P L ρ st.blks h ⟨dst, .load t x, ty, pos, after, guard⟩ a (stepOp P st ev ⟨dst, .load t x, ty, pos, after, guard⟩) := by
  simp only [stepOp]
  have hx := hev x
  split
  · rename_i b off e
    rw [e] at hx
    have hv := hx.of_ne (by simp)
    refine StepOk.of_none fun r hr => ?_
    simp only [bind, Option.bind_eq_some_iff] at hr
    obtain ⟨blk, hb, y, hy, hr⟩ := hr
    cases hr
    refine ⟨_, .inr rfl, fun w hw => run_value ?_⟩
    have hw := hw rfl
    simp only [Instr.loadAt, hv, SV.den, Instr.sureAddr, Sem.run_bind, Sem.run_pure, Result.andThen_ok]
    exact partS_cells hy (hw.blk b blk hb)
  · rename_i i off e
    rw [e] at hx
    have hv := hx.of_ne (by simp)
    refine StepOk.of_none fun r hr => ?_
    simp only [bind, Option.bind_eq_some_iff] at hr
    obtain ⟨z, hz, hr⟩ := hr
    split at hr
    · cases hr
    · rename_i hn
      cases hr
      simp only [Bool.or_eq_true, Bool.and_eq_true, Bool.not_eq_true', decide_eq_true_eq, not_or, not_and, ne_eq, Decidable.not_not] at hn
      intro vs w hl hc
      obtain ⟨b, o, ha, hcs⟩ := hc
      simp only [List.length_map] at hl
      cases hu : P.underlying t with
      | none => simp [hu] at hn
      | some d =>
        refine run_value ?_
        simp only [Instr.loadAt, hv, SV.den, ha, Instr.sureAddr, Sem.run_bind, Sem.run_pure, Result.andThen_ok]
        exact run_loadVar' hu (by rw [hl]; exact hn.1.2) (fun h1 => by rw [hl]; exact hn.2 h1) hcs
  · exact StepOk.optB_ext _
theorem step_store {t : TypeId} {x y : Operand} (he : EnvOk ρ) (hev : ∀ x, Rel L ρ (ev x) (a.eval x)) : StepOk P L ρ st.blks h ⟨dst, .store t x y, ty, pos, after, guard⟩ a (stepOp P st ev ⟨dst, .store t x y, ty, pos, after, guard⟩) := by
  simp only [stepOp]
  have hx := hev x
  split
  · rename_i b off e
    rw [e] at hx
    have hv := hx.of_ne (by simp)
    refine StepOk.of_none fun r hr => ?_
    simp only [bind, Option.bind_eq_some_iff] at hr
    obtain ⟨blk, hb, cs, hcs, hr⟩ := hr
    split at hr
    · cases hr
    · rename_i hn
      cases hr
      simp only [Bool.or_eq_true, decide_eq_true_eq, not_or, ne_eq, Decidable.not_not, Nat.not_lt] at hn
      obtain ⟨hc, hne, hone⟩ := cells_den (L := L) he hcs
      have hvy : a.eval y = (ev y).den L ρ := (hev y).of_ne hne
      refine ⟨blk, hb, hn.2, fun w hw => ?_⟩
      cases hu : P.underlying t with
      | none => simp [hu] at hn
      | some d =>
        have := run_storeVar' (P := P) (t := t) (w := w) (b := L.getD b 0) (o := off) (v := a.eval y) hu (by rw [hvy]; exact hc) (by rw [dens_length]; exact hn.1.2) (hw.blk b blk hb) (by simp [dens_length]; omega) hone
        simp only [execOp, Instr.storeAt, hv, SV.den, Instr.sureAddr, Sem.run_bind, Sem.run_pure, Result.andThen_ok, this]
  · rename_i i off e
    rw [e] at hx
    have hv := hx.of_ne (by simp)
    refine StepOk.of_none fun r hr => ?_
    simp only [bind, Option.bind_eq_some_iff] at hr
    obtain ⟨cs, hcs, hr⟩ := hr
    split at hr
    · cases hr
    · rename_i hn
      cases hr
      simp only [Bool.or_eq_true, decide_eq_true_eq, not_or, ne_eq, Decidable.not_not] at hn
      obtain ⟨hc, hne, hone⟩ := cells_den (L := L) he hcs
      have hvy : a.eval y = (ev y).den L ρ := (hev y).of_ne hne
      intro w b o' cur e' had hb hle
      cases hu : P.underlying t with
      | none => simp [hu] at hn
      | some d =>
        have := run_storeVar' (P := P) (t := t) (w := w) (b := b) (o := o') (v := a.eval y) hu (by rw [hvy]; exact hc) (by rw [dens_length]; exact hn.2) hb (by simp [dens_length]; omega) hone
        simp only [execOp, Instr.storeAt, hv, SV.den, had, Instr.sureAddr, Sem.run_bind, Sem.run_pure, Result.andThen_ok, this]
  · trivial

theorem step_buildSlice {t : TypeId} {n : Nat} {parts : Array (Nat × Operand)} (he : EnvOk ρ) (hev : ∀ x, Rel L ρ (ev x) (a.eval x)) : StepOk P L ρ st.blks h ⟨dst, .buildSlice t n parts, ty, pos, after, guard⟩ a (stepOp P st ev ⟨dst, .buildSlice t n parts, ty, pos, after, guard⟩) := by
  refine StepOk.of_none fun r hr => ?_
  simp only [bind, Option.bind_eq_some_iff] at hr
  obtain ⟨e, hel, z, hz, hr⟩ := hr
  split at hr
  · cases hr
  · rename_i hsz
    obtain ⟨cs, hcs, hr⟩ := Option.bind_eq_some_iff.1 hr
    cases hr
    obtain ⟨i, v, hi, hv, hc⟩ := zeroCells_spec hz
    have hf := fillS_sound (L := L) he _ hev parts.toList _ cs hcs
    have hu : P.underlying t = some (.slice e) := by
      unfold sliceElem at hel; split at hel
      · rename_i e' hu; cases hel; exact hu
      · cases hel
    intro w
    refine run_value ?_
    have hs : (sizeOf e).run P w = .ok (sizeT P e) w := sizeOf_T w hi
    have hm : (parts.map fun (i, x) => (i, a.eval x)).toList = parts.toList.map fun (i, x) => (i, a.eval x) := by simp
    have hz' : v.cells = z.toArray := by rw [← hc]
    have hinit : (SV.dens L ρ ((List.range (n * sizeT P e)).map fun i => ofValue (z.toArray[i % z.length]!))).toArray = (Array.range (n * sizeT P e)).map fun i => z.toArray[i % z.toArray.size]! := by
      apply Array.ext'
      rw [SV.dens_eq, List.map_map]
      simp only [Array.toList_map, Array.toList_range, List.size_toArray]
      exact List.map_congr_left fun j _ => ofValue_den L ρ _
    rw [hinit] at hf
    by_cases h0 : n * sizeT P e = 0
    · have hr0 : ∀ f : Nat → Value, (Array.range 0).map f = #[] := fun f => Array.ext' (by simp)
      simp only [h0, hr0] at hf
      simp only [Instr.buildSlice, Sem.run_bind, run_underlying hu, Result.andThen_ok, hs, h0, hm]
      simp only [hf, newRow, Sem.run_bind, run_newObj, Result.andThen_ok, Sem.run_pure, New.sv, SV.den, Nat.reducePow, gt_iff_lt, Nat.not_lt_zero, if_false, if_true, hr0]
      simp only [List.getD, List.getElem?_append_right (Nat.le_refl _), Nat.sub_self, List.getElem?_cons_zero, Option.getD_some]
      rfl
    · have hle : ¬ n * sizeT P e > 2 ^ 24 := by have : ¬ n * sizeT P e > 256 := hsz; omega
      simp only [Instr.buildSlice, Sem.run_bind, run_underlying hu, Result.andThen_ok, hs, hm, if_neg hle, if_neg h0, run_zeroValue' w hi hv, hz', Sem.run_pure]
      simp only [hf, newRow, Sem.run_bind, run_newObj, Result.andThen_ok, Sem.run_pure, New.sv, SV.den]
      simp only [List.getD, List.getElem?_append_right (Nat.le_refl _), Nat.sub_self, List.getElem?_cons_zero, Option.getD_some]
      rfl
theorem run_binOp_int {op : BinOp} {t : TypeId} {x y : Operand} {k k' : IntKind} {m n : Int} {w : World} {r : Value} (h : (binOp op t (.int k m) (.int k' n)).run P w = .ok r w) :
    (do eqGuard op t x y (.int k m) (.int k' n); binOp op t (.int k m) (.int k' n) : Sem Value).run P w = .ok r w := by
  have : (eqGuard op t x y (.int k m) (.int k' n)).run P w = .ok () w := by
    unfold eqGuard
    cases op <;> rfl
  simp only [Sem.run_bind, this, Result.andThen_ok, h]
theorem run_ar {op : BinOp} {t : TypeId} {k : IntKind} {m n : Int} {w : World} (hop : op = .add ∨ op = .sub ∨ op = .mul ∨ op = .and ∨ op = .or ∨ op = .xor ∨ op = .andNot) : (binOp op t (.int k m) (.int k n)).run P w = .ok (.int k (ar op k m n)) w := by
  rcases hop with rfl | rfl | rfl | rfl | rfl | rfl | rfl <;> simp [binOp, Op.intArith, ar] <;> rfl
theorem run_cm {op : BinOp} {t : TypeId} {k : IntKind} {m n : Int} {w : World} (hop : op = .eql ∨ op = .neq ∨ op = .lss ∨ op = .leq ∨ op = .gtr ∨ op = .geq) : (binOp op t (.int k m) (.int k n)).run P w = .ok (.bool (cm op m n)) w := by
  rcases hop with rfl | rfl | rfl | rfl | rfl | rfl <;> simp [binOp, Op.intCmp, cm]
theorem run_sh {op : BinOp} {t : TypeId} {k k' : IntKind} {m n : Int} {w : World} (hop : op = .shl ∨ op = .shr) (hn : 0 ≤ n) : (binOp op t (.int k m) (.int k' n)).run P w = .ok (.int k (ar op k m n)) w := by
  have : ¬ n < 0 := by omega
  rcases hop with rfl | rfl <;> simp [binOp, Op.shift, ar, this]
theorem run_qr {op : BinOp} {t : TypeId} {k : IntKind} {m n : Int} {w : World} (hop : op = .quo ∨ op = .rem) (hn : n ≠ 0) : (binOp op t (.int k m) (.int k n)).run P w = .ok (.int k (ar op k m n)) w := by
  rcases hop with rfl | rfl <;> simp [binOp, Op.intDiv, ar, hn]
theorem run_eqGuard {op : BinOp} {t : TypeId} {x y : Operand} {u v : Value} {w : World} (hg : P.eqGuardType P.depth t = false) (hi : u ≠ .nilIface) : (eqGuard op t x y u v).run P w = .ok () w := by
  unfold eqGuard
  cases op <;> first | rfl | (cases u <;> cases v <;> first | (exact absurd rfl hi) | rfl | (simp [hg]))
theorem eqS_ne {d : Nat} {t : TypeId} {x y : SV} {e : BT} (h : eqS P d t x y = some e) : x ≠ .junk ∧ y ≠ .junk ∧ ∀ (L : List Nat) (ρ : Env), x.den L ρ ≠ .nilIface := by
  cases d with
  | zero => simp [eqS] at h
  | succ d =>
    unfold eqS at h
    split at h <;> first | (cases h; done) | (refine ⟨by simp, by simp, fun L ρ => by simp [SV.den]⟩)
theorem eql_of_eqS {op : BinOp} {t : TypeId} {x y : SV} {e : BT} (h : eqS P 8 t x y = some e) (hint : ∀ k m k' n, ¬ (x = .int k m ∧ y = .int k' n)) (hop : op = .eql ∨ op = .neq) (w : World) :
    (binOp op t (x.den L ρ) (y.den L ρ)).run P w = .ok (.bool (if op = .eql then e.eval ρ else !e.eval ρ)) w := by
  have hs := eqS_sound (L := L) (ρ := ρ) 8 t x y e h Op.maxDepth w (by decide)
  unfold eqS at h
  rcases hop with rfl | rfl
  · split at h
    · rename_i k0 k a k' b hu; exact absurd ⟨rfl, rfl⟩ (hint k a k' b)
    all_goals first | (cases h; done) | (simp only [SV.den] at hs ⊢; simp only [binOp, Op.equal, Sem.run_bind, hs, Result.andThen_ok, Sem.run_pure, if_true])
  · split at h
    · rename_i k0 k a k' b hu; exact absurd ⟨rfl, rfl⟩ (hint k a k' b)
    all_goals first | (cases h; done) | (simp only [SV.den] at hs ⊢; simp only [binOp, Op.equal, Sem.run_bind, hs, Result.andThen_ok, Sem.run_pure]; simp)
theorem step_binOp {op : BinOp} {t t' : TypeId} {x y : Operand} (hev : ∀ x, Rel L ρ (ev x) (a.eval x)) : StepOk P L ρ st.blks h ⟨dst, .binOp op t x y t', ty, pos, after, guard⟩ a (stepOp P st ev ⟨dst, .binOp op t x y t', ty, pos, after, guard⟩) := by
  simp only [stepOp]
  have hx := hev x
  have hy := hev y
  split
  · rename_i k m k' n ex ey
    rw [ex] at hx; rw [ey] at hy
    have hx' := hx.of_ne (by simp)
    have hy' := hy.of_ne (by simp)
    simp only [SV.den] at hx' hy'
    split
    · intro hc
      rw [BT.mkCmp_eval] at hc
      simp only [cm, IT.eval, ge_iff_le, decide_eq_true_eq] at hc
      refine ⟨_, .inr rfl, fun w _ => run_value ?_⟩
      rw [hx', hy']
      simp only [SV.den, IT.mkBin_eval]
      exact run_binOp_int (run_sh (.inl rfl) hc)
    · intro hc
      rw [BT.mkCmp_eval] at hc
      simp only [cm, IT.eval, ge_iff_le, decide_eq_true_eq] at hc
      refine ⟨_, .inr rfl, fun w _ => run_value ?_⟩
      rw [hx', hy']
      simp only [SV.den, IT.mkBin_eval]
      exact run_binOp_int (run_sh (.inr rfl) hc)
    · split
      · rename_i hk; subst hk
        intro hc
        rw [BT.mkCmp_eval] at hc
        simp only [cm, IT.eval, bne_iff_ne, ne_eq] at hc
        refine ⟨_, .inr rfl, fun w _ => run_value ?_⟩
        rw [hx', hy']
        simp only [SV.den, IT.mkBin_eval]
        exact run_binOp_int (run_qr (.inl rfl) hc)
      · trivial
    · split
      · rename_i hk; subst hk
        intro hc
        rw [BT.mkCmp_eval] at hc
        simp only [cm, IT.eval, bne_iff_ne, ne_eq] at hc
        refine ⟨_, .inr rfl, fun w _ => run_value ?_⟩
        rw [hx', hy']
        simp only [SV.den, IT.mkBin_eval]
        exact run_binOp_int (run_qr (.inr rfl) hc)
      · trivial
    all_goals try (
      split
      · rename_i hk; subst hk
        refine ⟨_, .inr rfl, fun w _ => run_value ?_⟩
        rw [hx', hy']
        simp only [SV.den, BT.mkCmp_eval]
        exact run_binOp_int (run_cm (by simp))
      · trivial)
    split
    · rename_i h1 h2 h3 h4 h5 h6 h7 h8 h9 h10 hk; subst hk
      refine ⟨_, .inr rfl, fun w _ => run_value ?_⟩
      rw [hx', hy']
      simp only [SV.den, IT.mkBin_eval]
      exact run_binOp_int (run_ar (by cases op <;> simp_all))
    · trivial
  · rename_i hni
    split
    · split
      · trivial
      · rename_i hg
        split
        · rename_i e he
          obtain ⟨n1, n2, n3⟩ := eqS_ne he
          have hx' := hx.of_ne n1
          have hy' := hy.of_ne n2
          refine ⟨_, .inr rfl, fun w _ => run_value ?_⟩
          rw [hx', hy']
          simp only [Sem.run_bind, run_eqGuard (by simpa using hg) (n3 L ρ), Result.andThen_ok]
          rw [eql_of_eqS he (fun k m k' n hh => hni k m k' n hh.1 hh.2) (.inl rfl) w]
          simp [SV.den]
        · trivial
    · split
      · trivial
      · rename_i hg
        split
        · rename_i e he
          obtain ⟨n1, n2, n3⟩ := eqS_ne he
          have hx' := hx.of_ne n1
          have hy' := hy.of_ne n2
          refine ⟨_, .inr rfl, fun w _ => run_value ?_⟩
          rw [hx', hy']
          simp only [Sem.run_bind, run_eqGuard (by simpa using hg) (n3 L ρ), Result.andThen_ok]
          rw [eql_of_eqS he (fun k m k' n hh => hni k m k' n hh.1 hh.2) (.inr rfl) w]
          simp [SV.den, BT.mkNot_eval]
        · trivial
    · trivial

theorem step_unOp {op : UnOp} {t : TypeId} {x : Operand} (hev : ∀ x, Rel L ρ (ev x) (a.eval x)) : StepOk P L ρ st.blks h ⟨dst, .unOp op t x, ty, pos, after, guard⟩ a (stepOp P st ev ⟨dst, .unOp op t x, ty, pos, after, guard⟩) := by
  have hx := hev x
  cases op <;> simp only [stepOp]
  case not =>
    split
    · rename_i e; rw [e] at hx
      have hx' := hx.of_ne (by simp)
      refine ⟨_, .inr rfl, fun w _ => run_value ?_⟩
      simp [hx', SV.den, Op.unary, BT.mkNot_eval]
    · trivial
  case neg =>
    split
    · rename_i e; rw [e] at hx
      have hx' := hx.of_ne (by simp)
      refine ⟨_, .inr rfl, fun w _ => run_value ?_⟩
      simp [hx', SV.den, Op.unary, Op.intArith, IT.mkBin_eval, ar, IT.eval]
    · trivial
  all_goals exact StepOk.optB_ext _
theorem step_convert {s t : TypeId} {x : Operand} (hev : ∀ x, Rel L ρ (ev x) (a.eval x)) : StepOk P L ρ st.blks h ⟨dst, .convert s t x, ty, pos, after, guard⟩ a (stepOp P st ev ⟨dst, .convert s t x, ty, pos, after, guard⟩) := by
  have hx := hev x
  simp only [stepOp]
  split
  · rename_i d k k' m h1 h2 e
    rw [e] at hx
    have hx' := hx.of_ne (by simp)
    refine ⟨_, .inr rfl, fun w _ => run_value ?_⟩
    simp [hx', SV.den, convert, run_underlying h1, run_underlying h2, Conv.intToInt, IT.mkConv_eval]
  · trivial
theorem dens_evs {l : List Operand} (hev : ∀ x, Rel L ρ (ev x) (a.eval x)) (hf : ∀ x ∈ l.map ev, x.firm = true) : SV.dens L ρ (l.map ev) = l.map a.eval := by
  rw [SV.dens_eq, List.map_map]
  exact List.map_congr_left fun x hx => ((hev x).firm (hf _ (List.mem_map_of_mem hx))).symm
theorem step_makeFunc {f : Fn} {x y : Array Operand} (hev : ∀ x, Rel L ρ (ev x) (a.eval x)) : StepOk P L ρ st.blks h ⟨dst, .makeFunc f x y, ty, pos, after, guard⟩ a (stepOp P st ev ⟨dst, .makeFunc f x y, ty, pos, after, guard⟩) := by
  simp only [stepOp]
  split
  · rename_i hf
    simp only [Bool.and_eq_true, List.all_eq_true] at hf
    refine ⟨_, .inr rfl, fun w _ => run_value ?_⟩
    simp only [Instr.makeFunc, Sem.run_pure, SV.den, dens_evs hev hf.1, dens_evs hev hf.2]
    congr 2 <;> (apply Array.ext'; simp)
  · trivial
theorem fieldT_spec {s : TypeId} {f : Nat} {fd : Field} (h : fieldT P s f = some fd) : ∃ fs, P.underlying s = some (.struct fs) ∧ fs[f]? = some fd := by
  unfold fieldT at h
  split at h
  · rename_i fs hu; exact ⟨fs, hu, h⟩
  · cases h
theorem sizeT_pos {t : TypeId} (h : ¬ sizeT P t = 0) : ∃ i, P.info? t = some i := by
  unfold sizeT at h
  cases hi : P.info? t with
  | none => simp [hi] at h
  | some i => exact ⟨i, rfl⟩
theorem step_fieldAddr {s : TypeId} {x : Operand} {f : Nat} (hev : ∀ x, Rel L ρ (ev x) (a.eval x)) : StepOk P L ρ st.blks h ⟨dst, .fieldAddr s x f, ty, pos, after, guard⟩ a (stepOp P st ev ⟨dst, .fieldAddr s x f, ty, pos, after, guard⟩) := by
  have hx := hev x
  simp only [stepOp]
  split
  · trivial
  · rename_i fd hfd
    obtain ⟨fs, hu, hf⟩ := fieldT_spec hfd
    split
    · trivial
    · rename_i hsz
      obtain ⟨i, hi⟩ := sizeT_pos hsz
      split
      · rename_i b off e
        rw [e] at hx
        have hx' := hx.of_ne (by simp)
        refine ⟨_, .inr rfl, fun w _ => run_value ?_⟩
        simp [Instr.fieldAt, run_underlying hu, hf, hx', SV.den, Instr.sureAddr, fieldPlace, sizeOf_T w hi, hsz, addr_add]
      · rename_i i' off e
        rw [e] at hx
        have hx' := hx.of_ne (by simp)
        intro hc
        rw [BT.mkAnd_eval, BT.mkCmp_eval] at hc
        simp only [cm, IT.eval, ge_iff_le, Bool.and_eq_true, decide_eq_true_eq, BT.eval, Option.isSome_iff_exists] at hc
        obtain ⟨h0, p, hp⟩ := hc
        refine ⟨_, .inr rfl, fun w _ => run_value ?_⟩
        have ht : (off.eval ρ + (fd.offset : Int)).toNat = (off.eval ρ).toNat + fd.offset := by omega
        simp [Instr.fieldAt, run_underlying hu, hf, hx', SV.den, Instr.sureAddr, fieldPlace, sizeOf_T w hi, hsz, addr_add, addr_add2, atAddr, hp, IT.mkOff_eval, IT.eval, ht, Nat.add_assoc]
      · trivial
theorem step_field {s : TypeId} {x : Operand} {f : Nat} (hev : ∀ x, Rel L ρ (ev x) (a.eval x)) : StepOk P L ρ st.blks h ⟨dst, .field s x f, ty, pos, after, guard⟩ a (stepOp P st ev ⟨dst, .field s x f, ty, pos, after, guard⟩) := by
  have hx := hev x
  simp only [stepOp]
  refine StepOk.of_none fun r hr => ?_
  simp only [bind, Option.bind_eq_some_iff] at hr
  obtain ⟨fd, hfd, l, hl, y, hy, hr⟩ := hr
  cases hr
  obtain ⟨fs, hu, hf⟩ := fieldT_spec hfd
  have e : ev x = .agg l := by
    unfold aggOf at hl; split at hl
    · rename_i l' e; cases hl; exact e
    · cases hl
  rw [e] at hx
  have hx' := hx.of_ne (by simp)
  refine ⟨_, .inr rfl, fun w _ => run_value ?_⟩
  simp [Instr.field, run_underlying hu, hf, hx', SV.den, asAgg, partS_spec hy]
theorem toNat_off {x y : Int} (hx : 0 ≤ x) (hy : 0 ≤ y) (s : Nat) : (x + y * (s : Int)).toNat = x.toNat + y.toNat * s := by
  obtain ⟨a, rfl⟩ := Int.eq_ofNat_of_zero_le hx
  obtain ⟨b, rfl⟩ := Int.eq_ofNat_of_zero_le hy
  rw [← Int.natCast_mul, ← Int.natCast_add]
  simp only [Int.toNat_natCast]
theorem step_indexAddr {t : TypeId} {x ix : Operand} (hev : ∀ x, Rel L ρ (ev x) (a.eval x)) : StepOk P L ρ st.blks h ⟨dst, .indexAddr t x ix, ty, pos, after, guard⟩ a (stepOp P st ev ⟨dst, .indexAddr t x ix, ty, pos, after, guard⟩) := by
  have hx := hev x
  have hi := hev ix
  simp only [stepOp]
  split
  · rename_i n e b off k j hu ex ei
    rw [ex] at hx; rw [ei] at hi
    have hx' := hx.of_ne (by simp)
    have hi' := hi.of_ne (by simp)
    split
    · rename_i hc
      obtain ⟨h0, hn, hie⟩ := hc
      obtain ⟨q, hq⟩ := Option.isSome_iff_exists.1 hie
      refine ⟨_, .inr rfl, fun w _ => run_value ?_⟩
      simp [Instr.indexAt, hi', hx', SV.den, IT.eval, asIntOf, run_underlying hu, Instr.sureAddr, h0, hn, sizeOf_T w hq, addr_add]
    · trivial
  · rename_i n e p off k i hu ex ei
    rw [ex] at hx; rw [ei] at hi
    have hx' := hx.of_ne (by simp)
    have hi' := hi.of_ne (by simp)
    split
    · rename_i hie
      obtain ⟨q, hq⟩ := Option.isSome_iff_exists.1 hie
      intro hc
      simp only [BT.mkAnd_eval, BT.mkCmp_eval, cm, IT.eval, ge_iff_le, Bool.and_eq_true, decide_eq_true_eq, BT.eval, Option.isSome_iff_exists] at hc
      obtain ⟨h0, h1, h2, b, hp⟩ := hc
      refine ⟨_, .inr rfl, fun w _ => run_value ?_⟩
      have ht : (off.eval ρ + i.eval ρ * (sizeT P e : Int)).toNat = (off.eval ρ).toNat + (i.eval ρ).toNat * sizeT P e := toNat_off h0 h1 _
      have h2' : 0 ≤ i.eval ρ ∧ i.eval ρ < (n : Int) := ⟨h1, of_decide_eq_true h2⟩
      simp only [Instr.indexAt, hi', hx', SV.den, asIntOf, Sem.run_bind, Sem.run_pure, run_underlying hu, Result.andThen_ok, Instr.sureAddr, atAddr, hp, Option.map_some, if_pos h2', sizeOf_T w hq, addr_add, addr_add2, IT.mkOff_eval, ht, Nat.add_assoc]
    · trivial
  · rename_i e b off len cap k j hu ex ei
    rw [ex] at hx; rw [ei] at hi
    have hx' := hx.of_ne (by simp)
    have hi' := hi.of_ne (by simp)
    split
    · rename_i hc
      obtain ⟨h0, hn, hie⟩ := hc
      obtain ⟨q, hq⟩ := Option.isSome_iff_exists.1 hie
      refine ⟨_, .inr rfl, fun w _ => run_value ?_⟩
      simp [Instr.indexAt, hi', hx', SV.den, IT.eval, asIntOf, run_underlying hu, Instr.sureAddr, h0, hn, sizeOf_T w hq, addr_add]
    · trivial
  · rename_i e p off len cap k i hu ex ei
    rw [ex] at hx; rw [ei] at hi
    have hx' := hx.of_ne (by simp)
    have hi' := hi.of_ne (by simp)
    split
    · rename_i hie
      obtain ⟨q, hq⟩ := Option.isSome_iff_exists.1 hie
      intro hc
      simp only [BT.mkAnd_eval, BT.mkCmp_eval, cm, IT.eval, ge_iff_le, Bool.and_eq_true, decide_eq_true_eq, BT.eval, Option.isSome_iff_exists] at hc
      obtain ⟨h0, h1, h2, b, hp⟩ := hc
      refine ⟨_, .inr rfl, fun w _ => run_value ?_⟩
      have ht : (off.eval ρ + i.eval ρ * (sizeT P e : Int)).toNat = (off.eval ρ).toNat + (i.eval ρ).toNat * sizeT P e := toNat_off h0 h1 _
      have h3 : i.eval ρ < ((len.eval ρ).toNat : Int) := by omega
      have h3' : 0 ≤ i.eval ρ ∧ i.eval ρ < ((len.eval ρ).toNat : Int) := ⟨h1, h3⟩
      simp only [Instr.indexAt, hi', hx', SV.den, asIntOf, Sem.run_bind, Sem.run_pure, run_underlying hu, Result.andThen_ok, atAddr, hp, Option.map_some, if_pos h3', sizeOf_T w hq, addr_add, addr_add2, IT.mkOff_eval, ht, Nat.add_assoc]
    · trivial
  · rename_i n e b off k i _ hu ex ei
    rw [ex] at hx; rw [ei] at hi
    have hx' := hx.of_ne (by simp)
    have hi' := hi.of_ne (by simp)
    split
    · rename_i hc
      obtain ⟨_, hie⟩ := hc
      obtain ⟨q, hq⟩ := Option.isSome_iff_exists.1 hie
      intro j y hy hj
      have hjn : j < n := by have := (List.getElem?_eq_some_iff.1 hy).1; simpa using this
      simp only [List.getElem?_map, List.getElem?_range hjn, Option.map_some, Option.some.injEq] at hy
      subst hy
      refine ⟨_, .inr rfl, fun w _ => run_value ?_⟩
      have h2 : (j : Int) < (n : Int) := by omega
      simp [Instr.indexAt, hi', hx', SV.den, hj, asIntOf, run_underlying hu, Instr.sureAddr, hjn, sizeOf_T w hq, addr_add]
    · trivial
  · rename_i e b off len cap k i _ hu ex ei
    rw [ex] at hx; rw [ei] at hi
    have hx' := hx.of_ne (by simp)
    have hi' := hi.of_ne (by simp)
    split
    · rename_i hc
      obtain ⟨_, hie⟩ := hc
      obtain ⟨q, hq⟩ := Option.isSome_iff_exists.1 hie
      intro j y hy hj
      have hjn : j < len := by have := (List.getElem?_eq_some_iff.1 hy).1; simpa using this
      simp only [List.getElem?_map, List.getElem?_range hjn, Option.map_some, Option.some.injEq] at hy
      subst hy
      refine ⟨_, .inr rfl, fun w _ => run_value ?_⟩
      simp [Instr.indexAt, hi', hx', SV.den, hj, asIntOf, run_underlying hu, Instr.sureAddr, hjn, sizeOf_T w hq, addr_add]
    · trivial
  · trivial
  · trivial
theorem mapM_range {α : Type} {f : Nat → Option α} {n : Nat} {vs : List α} (h : (List.range n).mapM f = some vs) : vs.length = n ∧ ∀ (j : Nat) y, vs[j]? = some y → f j = some y := by
  have key : ∀ (l : List Nat) (vs : List α), l.mapM f = some vs → vs.length = l.length ∧ ∀ (j : Nat) y, vs[j]? = some y → ∃ x, l[j]? = some x ∧ f x = some y := by
    intro l
    induction l with
    | nil => intro vs h; simp at h; subst h; simp
    | cons x l ih =>
      intro vs h
      simp only [List.mapM_cons, bind, Option.bind_eq_some_iff, pure, Option.some.injEq] at h
      obtain ⟨y, hy, ys, hys, rfl⟩ := h
      obtain ⟨h1, h2⟩ := ih ys hys
      refine ⟨by simp [h1], fun j z hz => ?_⟩
      cases j with
      | zero => simp at hz; subst hz; exact ⟨x, rfl, hy⟩
      | succ j => simpa using h2 j z (by simpa using hz)
  obtain ⟨h1, h2⟩ := key _ _ h
  refine ⟨by simpa using h1, fun j y hy => ?_⟩
  obtain ⟨x, hx, hf⟩ := h2 j y hy
  have hj : j < n := by have := (List.getElem?_eq_some_iff.1 hx).1; simpa using this
  rw [List.getElem?_range hj] at hx
  cases hx; exact hf
theorem step_index {t : TypeId} {x ix : Operand} (hev : ∀ x, Rel L ρ (ev x) (a.eval x)) : StepOk P L ρ st.blks h ⟨dst, .index t x ix, ty, pos, after, guard⟩ a (stepOp P st ev ⟨dst, .index t x ix, ty, pos, after, guard⟩) := by
  have hx := hev x
  have hi := hev ix
  simp only [stepOp]
  split
  · rename_i n e l k j hu ex ei
    rw [ex] at hx; rw [ei] at hi
    have hx' := hx.of_ne (by simp)
    have hi' := hi.of_ne (by simp)
    split
    · rename_i hc
      obtain ⟨h0, hn⟩ := hc
      split
      · rename_i y hy
        obtain ⟨d, hd⟩ := partS_type hy
        obtain ⟨q, hq⟩ := info_of_underlying hd
        refine ⟨_, .inr rfl, fun w _ => run_value ?_⟩
        simp [Instr.index, hi', hx', SV.den, IT.eval, asIntOf, run_underlying hu, h0, hn, sizeOf_T w hq, partS_spec hy]
      · trivial
    · trivial
  · rename_i n e l k i _ hu ex ei
    rw [ex] at hx; rw [ei] at hi
    have hx' := hx.of_ne (by simp)
    have hi' := hi.of_ne (by simp)
    split
    · split
      · rename_i vs hvs
        intro j y hy hj
        obtain ⟨hlen, hvs⟩ := mapM_range hvs
        have hjn : j < n := by have := (List.getElem?_eq_some_iff.1 hy).1; omega
        have hp := hvs j y hy
        obtain ⟨d, hd⟩ := partS_type hp
        obtain ⟨q, hq⟩ := info_of_underlying hd
        refine ⟨_, .inr rfl, fun w _ => run_value ?_⟩
        simp [Instr.index, hi', hx', SV.den, hj, asIntOf, run_underlying hu, hjn, sizeOf_T w hq, partS_spec hp]
      · trivial
    · trivial
  · trivial
  · trivial
theorem step_extract {x : Operand} {i : Nat} (hev : ∀ x, Rel L ρ (ev x) (a.eval x)) : StepOk P L ρ st.blks h ⟨dst, .extract x i, ty, pos, after, guard⟩ a (stepOp P st ev ⟨dst, .extract x i, ty, pos, after, guard⟩) := by
  have hx := hev x
  simp only [stepOp]
  split
  · rename_i l e
    rw [e] at hx
    have hx' := hx.of_ne (by simp)
    refine StepOk.of_none fun r hr => ?_
    obtain ⟨y, hy, rfl⟩ := Option.map_eq_some_iff.1 hr
    refine ⟨_, .inr rfl, fun w _ => run_value ?_⟩
    simp [Instr.extract, hx', SV.den, dens_getElem?, hy]
  · trivial
theorem step_nilCheck {x : Operand} (hev : ∀ x, Rel L ρ (ev x) (a.eval x)) : StepOk P L ρ st.blks h ⟨dst, .nilCheck x, ty, pos, after, guard⟩ a (stepOp P st ev ⟨dst, .nilCheck x, ty, pos, after, guard⟩) := by
  have hx := hev x
  simp only [stepOp]
  split
  · rename_i e; rw [e] at hx
    have hx' := hx.of_ne (by simp)
    exact ⟨_, .inr rfl, fun w _ => by simp [execOp, hx', SV.den]⟩
  · rename_i i o e; rw [e] at hx
    have hx' := hx.of_ne (by simp)
    intro hc
    simp only [BT.eval, Option.isSome_iff_exists] at hc
    obtain ⟨p, hp⟩ := hc
    exact ⟨_, .inr rfl, fun w _ => by simp [execOp, hx', SV.den, atAddr, hp]⟩
  · rename_i e; rw [e] at hx
    have hx' := hx.of_ne (by simp)
    exact ⟨_, .inr rfl, fun w _ => by simp [execOp, hx', SV.den]⟩
  · rename_i e; rw [e] at hx
    have hx' := hx.of_ne (by simp)
    exact ⟨_, .inr rfl, fun w _ => by simp [execOp, hx', SV.den]⟩
  · trivial
theorem run_callFunc {f : FuncId} (hg : goodFn P f = true) (args : Array Value) (w : World) : (callFunc f args).run P w = .ok (.enter f args) w := by
  unfold goodFn at hg
  cases hf : P.funcs[f]? with
  | none => simp [hf] at hg
  | some fn =>
    simp only [hf, Bool.and_eq_true, bne_iff_ne, ne_eq] at hg
    have h1 : ¬ fn.body = none := by intro e; rw [e] at hg; simp at hg
    simp [callFunc, hf, hg.2, h1]
theorem map_toArray_evs {l : Array Operand} (hev : ∀ x, Rel L ρ (ev x) (a.eval x)) (hf : ∀ x ∈ l.toList.map ev, x.firm = true) : l.map a.eval = (SV.dens L ρ (l.toList.map ev)).toArray := by
  rw [dens_evs hev hf]; apply Array.ext'; simp
theorem step_call {c : Call} (hev : ∀ x, Rel L ρ (ev x) (a.eval x)) : StepOk P L ρ st.blks h ⟨dst, .call c, ty, pos, after, guard⟩ a (stepOp P st ev ⟨dst, .call c, ty, pos, after, guard⟩) := by
  obtain ⟨callee, args, ats⟩ := c
  have hmap : ∀ (l : List SV), args.toList.map ev = l → (∀ x ∈ l, x ≠ .junk) → args.map a.eval = (SV.dens L ρ l).toArray := by
    intro l hl hne
    apply Array.ext'
    rw [← hl, SV.dens_eq, List.map_map]
    simp only [Array.toList_map]
    exact List.map_congr_left fun x hx => (hev x).of_ne (hne _ (by rw [← hl]; exact List.mem_map_of_mem hx))
  cases callee with
  | invoke r m => simp only [stepOp]; trivial
  | value f =>
    simp only [stepOp]
    have hf := hev f
    split
    · rename_i g e
      rw [e] at hf
      have hf' := hf.of_ne (by simp)
      refine StepOk.of_none fun r hr => ?_
      split at hr
      · rename_i hg
        obtain ⟨sh, _, hr⟩ := Option.bind_eq_some_iff.1 hr
        cases hr
        intro hfirm w
        show (do let d ← Deferred.ofValue (a.eval f) (args.map a.eval); invoke d.target d.args : Sem Next).run P w = _
        rw [hf', map_toArray_evs hev hfirm]
        simp [SV.den, Deferred.ofValue, invoke, run_callFunc hg]
      · split at hr
        · obtain ⟨sh, _, hr⟩ := Option.bind_eq_some_iff.1 hr
          cases hr
          trivial
        · cases hr
    · rename_i g cap e
      rw [e] at hf
      have hf' := hf.of_ne (by simp)
      refine StepOk.of_none fun r hr => ?_
      split at hr
      · rename_i hg
        obtain ⟨sh, _, hr⟩ := Option.bind_eq_some_iff.1 hr
        cases hr
        intro hfirm w
        show (do let d ← Deferred.ofValue (a.eval f) (args.map a.eval); invoke d.target d.args : Sem Next).run P w = _
        rw [hf', map_toArray_evs hev (fun x hx => hfirm x (List.mem_append_left _ hx))]
        simp only [SV.den, Deferred.ofValue, Sem.run_bind, Sem.run_pure, Result.andThen_ok, invoke, run_callFunc hg]
        congr 2
        apply Array.ext'
        simp [SV.dens_eq]
      · cases hr
    · refine StepOk.of_none fun r hr => ?_
      obtain ⟨sh, _, hr⟩ := Option.bind_eq_some_iff.1 hr
      cases hr
      intro hfirm hargs w
      show (do let d ← Deferred.ofValue (a.eval f) (args.map a.eval); invoke d.target d.args : Sem Next).run P w = _
      rw [hf.firm hfirm, map_toArray_evs hev hargs]
  | builtin b =>
    cases b
    case len =>
      simp only [stepOp]
      split
      · rename_i e' b off n cap hu hl
        obtain ⟨t, ht, hu⟩ := Option.bind_eq_some_iff.1 hu
        have hm := hmap _ hl (by simp)
        refine ⟨_, .inr rfl, fun w _ => ?_⟩
        show (do pure (Next.value (← Builtin.len_ ats ty (args.map a.eval))) : Sem Next).run P w = _
        refine run_value ?_
        rw [hm]
        simp [Builtin.len_, ht, SV.dens, SV.den, run_underlying hu, goInt, IT.eval]
      · rename_i e' i o n cap hu hl
        obtain ⟨t, ht, hu⟩ := Option.bind_eq_some_iff.1 hu
        have hm := hmap _ hl (by simp)
        intro hc
        rw [BT.mkCmp_eval] at hc
        simp only [cm, IT.eval, ge_iff_le, decide_eq_true_eq] at hc
        refine ⟨_, .inr rfl, fun w _ => ?_⟩
        show (do pure (Next.value (← Builtin.len_ ats ty (args.map a.eval))) : Sem Next).run P w = _
        refine run_value ?_
        rw [hm]
        simp [Builtin.len_, ht, SV.dens, SV.den, run_underlying hu, goInt, Int.toNat_of_nonneg hc]
      · rename_i e' n cap hu hl
        obtain ⟨t, ht, hu⟩ := Option.bind_eq_some_iff.1 hu
        have hm := hmap _ hl (by simp)
        refine ⟨_, .inr rfl, fun w _ => ?_⟩
        show (do pure (Next.value (← Builtin.len_ ats ty (args.map a.eval))) : Sem Next).run P w = _
        refine run_value ?_
        rw [hm]
        simp [Builtin.len_, ht, SV.dens, SV.den, run_underlying hu, goInt, IT.eval]
      · trivial
    case min =>
      simp only [stepOp]
      split
      · rename_i k x k' y hl
        have hm := hmap _ hl (by simp)
        refine ⟨_, .inr rfl, fun w _ => ?_⟩
        show (do pure (Next.value (← Builtin.min_ ats ty (args.map a.eval))) : Sem Next).run P w = _
        refine run_value ?_
        rw [hm]
        simp [Builtin.min_, SV.dens, SV.den, Builtin.min2, IT.eval]
      · trivial
    case max =>
      simp only [stepOp]
      split
      · rename_i k x k' y hl
        have hm := hmap _ hl (by simp)
        refine ⟨_, .inr rfl, fun w _ => ?_⟩
        show (do pure (Next.value (← Builtin.max_ ats ty (args.map a.eval))) : Sem Next).run P w = _
        refine run_value ?_
        rw [hm]
        simp [Builtin.max_, SV.dens, SV.den, Builtin.max2, IT.eval]
      · trivial
    all_goals exact StepOk.optB_ext _
theorem boundI_spec {x : Option Operand} {d i : IT} (hev : ∀ x, Rel L ρ (ev x) (a.eval x)) (h : boundI ev x d = some i) : (x = none ∧ i = d) ∨ ∃ o k, x = some o ∧ a.eval o = .int k (i.eval ρ) := by
  cases x with
  | none => left; simp [boundI] at h; exact ⟨rfl, h.symm⟩
  | some o =>
    right
    simp only [boundI, intOfS] at h
    split at h
    · rename_i k t e
      cases h
      have := hev o
      rw [e] at this
      exact ⟨o, k, rfl, this.of_ne (by simp)⟩
    · cases h
theorem run_bound {k : IntKind} {i : Int} {y : Nat} {code : BoundsCode} {w : World} (h0 : 0 ≤ i) (h1 : i ≤ y) : (Instr.sliceBound (.int k i) y code).run P w = .ok i.toNat w := by
  simp [Instr.sliceBound, asIntOf, h0, h1]
theorem run_bounds {lo hi : Option Operand} {l h : IT} {n c : Nat} (hev : ∀ x, Rel L ρ (ev x) (a.eval x)) {d : IT} (hl : boundI ev lo (.lit 0) = some l) (hh : boundI ev hi d = some h) (hd : (d.eval ρ).toNat = n) (h0 : 0 ≤ l.eval ρ) (h1 : l.eval ρ ≤ h.eval ρ) (h2 : h.eval ρ ≤ c) (w : World) :
    (Instr.sliceBounds true n c (lo.map a.eval) (hi.map a.eval) none).run P w = .ok ((l.eval ρ).toNat, (h.eval ρ).toNat, c) w := by
  have hle : l.eval ρ ≤ ((h.eval ρ).toNat : Int) := by omega
  have h0h : 0 ≤ h.eval ρ := by omega
  rcases boundI_spec hev hl with ⟨rfl, rfl⟩ | ⟨o, k, rfl, ho⟩ <;> rcases boundI_spec hev hh with ⟨rfl, rfl⟩ | ⟨o', k', rfl, ho'⟩
  · simp [Instr.sliceBounds, IT.eval, hd]
  · simp [Instr.sliceBounds, IT.eval, ho', run_bound h0h h2]
  · rw [hd] at hle
    simp [Instr.sliceBounds, ho, run_bound h0 hle, hd]
  · simp [Instr.sliceBounds, ho, ho', run_bound h0 hle, run_bound h0h h2]
theorem step_slice {t : TypeId} {x : Operand} {lo hi mx : Option Operand} (hev : ∀ x, Rel L ρ (ev x) (a.eval x)) : StepOk P L ρ st.blks h ⟨dst, .slice t x lo hi mx, ty, pos, after, guard⟩ a (stepOp P st ev ⟨dst, .slice t x lo hi mx, ty, pos, after, guard⟩) := by
  have hx := hev x
  simp only [stepOp]
  split
  · rename_i e b off len cap hu ex
    rw [ex] at hx
    have hx' := hx.of_ne (by simp)
    split
    · rename_i l q hl hq
      split
      · rename_i hc
        obtain ⟨h0, h1, h2, hie⟩ := hc
        obtain ⟨i, hi'⟩ := Option.isSome_iff_exists.1 hie
        refine ⟨_, .inr rfl, fun w _ => run_value ?_⟩
        have hb := run_bounds (P := P) hev hl hq (n := len) (c := cap) (by simp [IT.eval]) (by simpa [IT.eval] using h0) (by simpa [IT.eval] using h1) (by simpa [IT.eval] using h2) w
        simp only [IT.eval] at hb
        simp only [Instr.sliceAt, Instr.slice, hx', SV.den, Sem.run_bind, run_underlying hu, Result.andThen_ok, Option.map_none, hb, sizeOf_T w hi', Sem.run_pure]
        by_cases hcl : cap = l.toNat
        · simp [hcl]
        · simp [hcl, addr_add]
      · trivial
    · trivial
  · rename_i e p off len cap hu ex
    rw [ex] at hx
    have hx' := hx.of_ne (by simp)
    split
    · rename_i l q hl hq
      split
      · rename_i hie
        obtain ⟨i, hi'⟩ := Option.isSome_iff_exists.1 hie
        intro hc
        simp only [BT.mkAnd_eval, BT.mkCmp_eval, cm, IT.eval, ge_iff_le, Bool.and_eq_true, decide_eq_true_eq] at hc
        obtain ⟨h0, h1, h2, h3⟩ := hc
        have h1 : 0 ≤ l.eval ρ := of_decide_eq_true h1
        have h2 : l.eval ρ ≤ q.eval ρ := by simpa using h2
        have h3 : q.eval ρ ≤ cap.eval ρ := by simpa using h3
        refine ⟨_, .inr rfl, fun w _ => run_value ?_⟩
        have h3' : q.eval ρ ≤ ((cap.eval ρ).toNat : Int) := by omega
        have hb := run_bounds (P := P) hev hl hq (n := (len.eval ρ).toNat) (c := (cap.eval ρ).toNat) rfl h1 h2 h3' w
        have ht : (off.eval ρ + l.eval ρ * (sizeT P e : Int)).toNat = (off.eval ρ).toNat + (l.eval ρ).toNat * sizeT P e := toNat_off h0 h1 _
        have e1 : (q.eval ρ - l.eval ρ).toNat = (q.eval ρ).toNat - (l.eval ρ).toNat := by omega
        have e2 : (cap.eval ρ - l.eval ρ).toNat = (cap.eval ρ).toNat - (l.eval ρ).toNat := by omega
        simp only [Instr.sliceAt, Instr.slice, hx', SV.den, Sem.run_bind, run_underlying hu, Result.andThen_ok, Option.map_none, hb, sizeOf_T w hi', Sem.run_pure, IT.mkDif_eval, IT.mkIfeq_eval, IT.mkOff_eval, e1, e2]
        by_cases hcl : cap.eval ρ = l.eval ρ
        · simp [hcl]
        · have hcl' : ¬ (cap.eval ρ).toNat = (l.eval ρ).toNat := by omega
          simp only [if_neg hcl, if_neg hcl', atAddr, ht, Option.map_map]
          congr 3
          funext a
          simp [addr_add2, Nat.add_assoc]
      · trivial
    · trivial
  · trivial
  · exact StepOk.optB_ext _
theorem step_makeSlice {t : TypeId} {x y : Operand} (hev : ∀ x, Rel L ρ (ev x) (a.eval x)) : StepOk P L ρ st.blks h ⟨dst, .makeSlice t x y, ty, pos, after, guard⟩ a (stepOp P st ev ⟨dst, .makeSlice t x y, ty, pos, after, guard⟩) := by
  simp only [stepOp]
  have hx := hev x
  have hy := hev y
  split
  · rename_i k n k' m _ ex ey
    rw [ex] at hx; rw [ey] at hy
    have hx' := hx.of_ne (by simp)
    have hy' := hy.of_ne (by simp)
    refine StepOk.of_none fun r hr => ?_
    simp only [bind, Option.bind_eq_some_iff] at hr
    obtain ⟨e, hel, i, hi, z, hz, hr⟩ := hr
    have hu : P.underlying t = some (.slice e) := by
      unfold sliceElem at hel; split at hel
      · rename_i e' hu; cases hel; exact hu
      · cases hel
    obtain ⟨i', v, hi', hv, hzc⟩ := zeroCells_spec hz
    rw [hi] at hi'; cases hi'
    split at hr
    · rename_i hc
      obtain ⟨h0, h1, h2, h3, h4⟩ := hc
      have hsz : sizeT P e = i.size := by simp [sizeT, hi]
      have hby : (i.bytes : Int) * m ≤ 281474976710656 := by
        have : (i.bytes : Int) * m ≤ 65536 * 65536 := Int.mul_le_mul (by omega) h2 (by omega) (by omega)
        omega
      have hrun : ∀ w, (Instr.makeSlice t (a.eval x) (a.eval y)).run P w = .ok (.slice (some ⟨w.heap.size, 0, none⟩) n.toNat m.toNat) (w.alloc (.cells (madeCells v.cells (m.toNat * i.size)) e)) := fun w => by
        rw [hx', hy']
        exact run_make w t e i v hu hi hv k k' n m h0 h1 hby (by omega)
      split at hr
      · cases hr
        intro w
        refine run_value ?_
        rw [hrun w]
        simp only [bigVal, bigCells, Option.map_some, hz, Option.getD_some, hsz, ← hzc]
      · cases hr
        intro w
        refine run_value ?_
        rw [hrun w]
        simp only [New.sv, SV.den, map_ofValue_dens, hsz, ← hzc]
        simp only [List.getD, List.getElem?_append_right (Nat.le_refl _), Nat.sub_self, List.getElem?_cons_zero, Option.getD_some]
    · cases hr
  · rename_i k l k' c ex ey _
    rw [ex] at hx; rw [ey] at hy
    have hx' := hx.of_ne (by simp)
    have hy' := hy.of_ne (by simp)
    refine StepOk.of_none fun r hr => ?_
    simp only [bind, Option.bind_eq_some_iff] at hr
    obtain ⟨e, hel, i, hi, z, hz, hr⟩ := hr
    have hu : P.underlying t = some (.slice e) := by
      unfold sliceElem at hel; split at hel
      · rename_i e' hu; cases hel; exact hu
      · cases hel
    obtain ⟨i', v, hi', hv, hzc⟩ := zeroCells_spec hz
    rw [hi] at hi'; cases hi'
    cases hr
    intro n m hn hm hnm hby h63 w
    have hsz : sizeT P e = i.size := by simp [sizeT, hi]
    refine run_value ?_
    rw [hx', hy']
    simp only [SV.den, hn, hm]
    have hb' : (i.bytes : Int) * (m : Int) ≤ 281474976710656 := by
      have h : ((i.bytes * m : Nat) : Int) ≤ 281474976710656 := by omega
      rwa [Int.natCast_mul] at h
    rw [run_make w t e i v hu hi hv k k' n m (by omega) (by omega) hb' (by omega)]
    simp only [bigCells, hz, Option.getD_some, hsz, ← hzc, Int.toNat_natCast]
  · trivial
end ops

theorem stepOp_sound {L : List Nat} {ρ : Env} {h : HW} {st : St} {ev : Operand → SV} {a : Act} (o : Oper) (he : EnvOk ρ) (hev : ∀ x, Rel L ρ (ev x) (a.eval x)) : StepOk P L ρ st.blks h o a (stepOp P st ev o) := by
  obtain ⟨dst, op, ty, pos, after, guard⟩ := o
  cases op
  case move => exact step_move hev
  case assign => exact step_assign hev
  case pick => exact step_pick hev
  case alloc => exact step_alloc
  case box => exact step_box he hev
  case build => exact step_build he hev
  case buildSlice => exact step_buildSlice he hev
  case load => exact step_load hev
  case store => exact step_store he hev
  case binOp => exact step_binOp hev
  case unOp => exact step_unOp hev
  case convert => exact step_convert hev
  case makeFunc => exact step_makeFunc hev
  case fieldAddr => exact step_fieldAddr hev
  case field => exact step_field hev
  case indexAddr => exact step_indexAddr hev
  case index => exact step_index hev
  case extract => exact step_extract hev
  case nilCheck => exact step_nilCheck hev
  case call => exact step_call hev
  case slice => exact step_slice hev
  case makeSlice => exact step_makeSlice hev
  all_goals exact StepOk.optB_ext _
end
end Go.Sy
