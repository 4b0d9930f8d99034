/- Maps whose keys are sounds. -/
import Derived.Test.YtkhcfbdjmpodbaaDoorKj
import Derived.MapKept
import Derived.Maps.RangeRun
import Derived.WideKeyEntry
import Derived.Carry
set_option linter.unusedSimpArgs false
set_option linter.unusedVariables false
namespace Go.Sy
open Go Go.RowKit Go.MapKept Go.ChangeMaps
structure KeyKit (P : Program) (kt : TypeId) (isK : Value → Prop) : Prop where
  check : ∀ (w : World) (em : Bool) (k : Value), isK k → (Instr.checkKey em 10000 kt k).run P w = .ok () w
  find : ∀ (w : World) (k : Value) (l : List MapEntry), isK k → (∀ x ∈ l, isK x.key) → ((Instr.findKey kt k l).run P w = .ok none w ∧ ∀ x ∈ l, x.key ≠ k) ∨ ∃ j e, (Instr.findKey kt k l).run P w = .ok (some (j, e.val)) w ∧ l[j]? = some e ∧ e.key = k
  stays : ∀ (w : World) (k : Value), isK k → (Instr.keyThatStays k k).run P w = .ok k w
structure MapK (isK : Value → Prop) (es : Array MapEntry) (clock : Nat) (f : Value → Option Value) : Prop where
  at' : ∀ e ∈ es.toList, isK e.key ∧ f e.key = some e.val
  has : ∀ k v, f k = some v → ∃ e ∈ es.toList, e.key = k
  nd : (es.toList.map (·.key)).Nodup
  lt : ∀ e ∈ es.toList, e.born < clock
  bn : (es.toList.map (·.born)).Nodup
theorem MapK.empty (isK : Value → Prop) : MapK isK #[] 0 fun _ => none := ⟨fun e he => by simp at he, fun k v h => (by cases h), by simp, fun e he => by simp at he, by simp⟩
theorem MapK.find {P : Program} {kt : TypeId} {isK : Value → Prop} (K : KeyKit P kt isK) {es : Array MapEntry} {clock : Nat} {f : Value → Option Value} (M : MapK isK es clock f) {k : Value} (hk : isK k) (w : World) :
    ((Instr.findKey kt k es.toList).run P w = .ok none w ∧ f k = none ∧ ∀ x ∈ es.toList, x.key ≠ k) ∨ ∃ j e, (Instr.findKey kt k es.toList).run P w = .ok (some (j, e.val)) w ∧ es.toList[j]? = some e ∧ e.key = k ∧ f k = some e.val := by
  rcases K.find w k es.toList hk (fun x hx => (M.at' x hx).1) with ⟨h1, h2⟩ | ⟨j, e, h1, h2, h3⟩
  · refine .inl ⟨h1, ?_, h2⟩
    cases hf : f k with
    | none => rfl
    | some v => obtain ⟨e, he, hek⟩ := M.has k v hf; exact absurd hek (h2 e he)
  · exact .inr ⟨j, e, h1, h2, h3, by rw [← h3]; exact (M.at' e (List.mem_of_getElem? h2)).2⟩
theorem MapK.push {isK : Value → Prop} {es : Array MapEntry} {clock : Nat} {f : Value → Option Value} (M : MapK isK es clock f) {k v : Value} (hk : isK k) (hn : ∀ x ∈ es.toList, x.key ≠ k) : MapK isK (es.push ⟨k, v, clock⟩) (clock + 1) (updF f k v) where
  at' e he := by
    rw [Array.toList_push, List.mem_append] at he
    rcases he with he | he
    · rw [updF_other f v (hn e he)]; exact M.at' e he
    · simp at he; subst he; exact ⟨hk, updF_same f k v⟩
  has x y h := by
    rw [Array.toList_push]
    by_cases e : x = k
    · exact ⟨_, List.mem_append_right _ (List.mem_cons_self ..), e.symm⟩
    · rw [updF_other f v e] at h
      obtain ⟨e, he, h⟩ := M.has x y h
      exact ⟨e, List.mem_append_left _ he, h⟩
  nd := by
    rw [Array.toList_push, List.map_append, List.nodup_append]
    refine ⟨M.nd, by simp, fun a ha b hb => ?_⟩
    simp at hb; subst hb
    obtain ⟨e, he, rfl⟩ := List.mem_map.1 ha
    exact hn e he
  lt e he := by
    rw [Array.toList_push, List.mem_append] at he
    rcases he with he | he
    · have := M.lt e he; omega
    · simp at he; subst he; exact Nat.lt_succ_self _
  bn := by
    rw [Array.toList_push, List.map_append, List.nodup_append]
    refine ⟨M.bn, by simp, fun a ha b hb => ?_⟩
    simp at hb; subst hb
    obtain ⟨e, he, rfl⟩ := List.mem_map.1 ha
    have := M.lt e he; omega
theorem MapK.modify {isK : Value → Prop} {es : Array MapEntry} {clock : Nat} {f : Value → Option Value} (M : MapK isK es clock f) {k v : Value} {j : Nat} {e0 : MapEntry} (hj : es.toList[j]? = some e0) (h0 : e0.key = k) (g : MapEntry → MapEntry) (hg : g e0 = { e0 with key := k, val := v }) : MapK isK (es.modify j g) clock (updF f k v) := by
  have hlt : j < es.toList.length := (List.getElem?_eq_some_iff.1 hj).1
  have hl : (es.modify j g).toList = es.toList.set j { e0 with key := k, val := v } := by
    apply List.ext_getElem?
    intro i
    rw [Array.getElem?_toList, Array.getElem?_modify, List.getElem?_set]
    by_cases e : j = i
    · subst e
      rw [if_pos rfl, if_pos rfl, if_pos hlt, ← Array.getElem?_toList, hj, ← hg]; rfl
    · rw [if_neg e, if_neg e, Array.getElem?_toList]
  have hmap : (es.toList.set j { e0 with key := k, val := v }).map (·.key) = es.toList.map (·.key) := by
    rw [List.map_set]
    apply List.ext_getElem?
    intro i
    rw [List.getElem?_set]
    by_cases e : j = i
    · subst e
      rw [if_pos rfl, if_pos (by simpa using hlt), List.getElem?_map, hj]; simp [h0]
    · rw [if_neg e]
  have hmapb : (es.toList.set j { e0 with key := k, val := v }).map (·.born) = es.toList.map (·.born) := by
    rw [List.map_set]
    apply List.ext_getElem?
    intro i
    rw [List.getElem?_set]
    by_cases e : j = i
    · subst e
      rw [if_pos rfl, if_pos (by simpa using hlt), List.getElem?_map, hj]; rfl
    · rw [if_neg e]
  have hne : ∀ e ∈ es.toList, ∀ i, es.toList[i]? = some e → i ≠ j → e.key ≠ k := fun e he i hi hij hk => by
    have h1 : (es.toList.map (·.key))[i]? = some k := by rw [List.getElem?_map, hi]; simp [hk]
    have h2 : (es.toList.map (·.key))[j]? = some k := by rw [List.getElem?_map, hj]; simp [h0]
    exact hij ((List.getElem?_inj (by simpa using (List.getElem?_eq_some_iff.1 hi).1) M.nd).1 (h1.trans h2.symm))
  refine ⟨fun e he => ?_, fun x y h => ?_, by rw [hl, hmap]; exact M.nd, fun e he => ?_, by rw [hl, hmapb]; exact M.bn⟩
  · rw [hl] at he
    obtain ⟨i, hi⟩ := List.mem_iff_getElem?.1 he
    rw [List.getElem?_set] at hi
    by_cases e' : j = i
    · subst e'
      rw [if_pos rfl, if_pos hlt] at hi
      cases hi
      exact ⟨by rw [← h0]; exact (M.at' e0 (List.mem_of_getElem? hj)).1, updF_same f k v⟩
    · rw [if_neg e'] at hi
      have := hne e (List.mem_of_getElem? hi) i hi (Ne.symm e')
      rw [updF_other f v this]
      exact M.at' e (List.mem_of_getElem? hi)
  · rw [hl]
    have hk0 : k ∈ es.toList.map (·.key) := List.mem_map.2 ⟨e0, List.mem_of_getElem? hj, h0⟩
    have hx : x ∈ es.toList.map (·.key) := by
      by_cases e : x = k
      · exact e ▸ hk0
      · rw [updF_other f v e] at h
        obtain ⟨e, he, rfl⟩ := M.has x y h
        exact List.mem_map_of_mem he
    rw [← hmap] at hx
    obtain ⟨e, he, rfl⟩ := List.mem_map.1 hx
    exact ⟨e, he, rfl⟩
  · have : e.born ∈ (es.modify j g).toList.map (·.born) := List.mem_map_of_mem he
    rw [hl, hmapb] at this
    obtain ⟨x, hx, h⟩ := List.mem_map.1 this
    rw [← h]; exact M.lt x hx
section
variable {P : Program} {w : World} {t kt et : TypeId} {isK : Value → Prop} {es : Array MapEntry} {f : Value → Option Value} {b clock : Nat}
theorem runK_update (K : KeyKit P kt isK) (ht : P.underlying t = some (.map kt et)) (hb : w.heap[b]? = some (.map es clock)) (M : MapK isK es clock f) {k v : Value} (hk : isK k) :
    ∃ es' clock', (Instr.mapUpdate t (.map (some b)) k v).run P w = .ok () { w with heap := w.heap.setIfInBounds b (.map es' clock') } ∧ MapK isK es' clock' (updF f k v) := by
  rcases M.find K hk w with ⟨h1, h2, h3⟩ | ⟨j, e, h1, h2, h3, h4⟩
  · refine ⟨_, clock + 1, ?_, M.push hk h3 (v := v)⟩
    simp [Instr.mapUpdate, run_underlying ht, MapKept.run_getObj_map hb, K.check w _ _ hk, h1, Result.andThen, MapKept.run_setObj_map _ hb]
  · refine ⟨_, clock, ?_, M.modify h2 h3 (v := v) (fun e => { e with key := k, val := v }) rfl⟩
    have h2' : es[j]? = some e := by rw [← Array.getElem?_toList]; exact h2
    simp [Instr.mapUpdate, run_underlying ht, MapKept.run_getObj_map hb, K.check w _ _ hk, h1, Result.andThen, MapKept.run_setObj_map _ hb, h2', h3, K.stays w _ hk]
end
section
variable {P : Program} {c : Cx} {L : List Nat} {ρ : Env} {blks : List Blk} {m : Mem} {R : Value → HW → Prop} {Dn : Nat → List U → HW → Prop} {A : List (List U → HW → Prop)}
theorem grown_set {w : World} {b : Nat} {o : Obj} (h : ∃ o', w.heap[b]? = some o') : w.grownBy { w with heap := w.heap.setIfInBounds b o } (some b) := by
  obtain ⟨o', h⟩ := h
  exact ⟨rfl, rfl, rfl, by simp, fun i _ hi => (heap_set h).2 i fun e => hi (by rw [e])⟩
theorem hold_set {w : World} {b : Nat} {o : Obj} (h : (HW.mem m).H w) (hb : m b ≠ none) : (HW.mem (m.upd b o)).H { w with heap := w.heap.setIfInBounds b o } := fun i x hi => by
  obtain ⟨o', ho⟩ : ∃ o', m b = some o' := Option.ne_none_iff_exists'.1 hb
  have hbw := h b o' ho
  by_cases e : i = b
  · rw [e, Mem.upd_same] at hi
    cases hi
    rw [e]; exact (heap_set hbw).1
  · rw [Mem.upd_other _ _ e] at hi
    exact ((heap_set hbw).2 i e).trans (h i x hi)
theorem DenM.mkMapK {p : Bool} {t ty : TypeId} {k : Tree} (hk : ∀ b, m b = none → b ∉ L → DenM P R Dn k L (ρ ++ [.v (.map (some b))]) c (m.upd b (.map #[] 0)) A) (hs : scBlks ρ.length blks = true := by rfl) : DenM P R Dn (.ext p ⟨.makeMap t none, ty, []⟩ .val blks k) L ρ c m A := .extM hs fun g w hw => by
  have hlt : ∀ b, m b ≠ none → b < w.heap.size := fun b hb => (HW.mem m).inb w b hw.hold.2 hb
  have hmn : m w.heap.size = none := by
    cases h : m w.heap.size with
    | none => rfl
    | some o => have := hlt w.heap.size (by rw [h]; simp); omega
  have hL : w.heap.size ∉ L := fun h => by have := hw.lt _ h; omega
  refine ⟨.map (some w.heap.size), w.alloc (.map #[] 0), none, m.upd w.heap.size (.map #[] 0), [.v (.map (some w.heap.size))], ?_, World.grownBy_alloc w (.map #[] 0) none, fun _ h => (by cases h), fun b hb _ => Mem.upd_other _ _ (by omega), fun b o hb => ?_, fun _ => rfl, uOk_of rfl, ?_, hk w.heap.size hmn hL⟩
  · show (do pure (Next.value (← Instr.makeMap t none)) : Sem Next).run P w = _
    rw [Sem.run_bind, run_makeMap]; rfl
  · by_cases e : b = w.heap.size
    · rw [e, Mem.upd_same] at hb
      cases hb
      rw [e]; exact (MapKept.heap_alloc w _).1
    · rw [Mem.upd_other _ _ e] at hb
      have h1 := hw.hold.2 b o hb
      have h2 := hlt b (by rw [hb]; simp)
      rw [← h1]
      exact (MapKept.heap_alloc w _).2 b h2
  · have := getElem_env ρ [.v (.map (some w.heap.size))] 0
    rw [Nat.add_zero] at this
    simp only [Sh.fresh, SV.den, Env.val, this]; rfl
theorem DenM.updateK {t kt et ty : TypeId} {isK : Value → Prop} {xo yo zo : Operand} {ms ks vs : SV} {k : Tree} (K : KeyKit P kt isK) (key v : Value) (es : Array MapEntry) (f : Value → Option Value) (b clock : Nat) (ht : P.underlying t = some (.map kt et))
    (hkey : ks.den L ρ = key) (hik : isK key) (hvs : vs.den L ρ = v) (hm : m b = some (.map es clock)) (M : MapK isK es clock f) (hk : ∀ es' clock', MapK isK es' clock' (updF f key v) → DenM P R Dn k L ρ c (m.upd b (.map es' clock')) A) (hms : ms.den L ρ = .map (some b) := by rfl) :
    DenM P R Dn (.extu false ⟨.mapUpdate t xo yo zo, ty, [ms, ks, vs]⟩ blks k) L ρ c m A := fun g w hw => by
  have hb := hw.hold.2 b _ hm
  obtain ⟨es', clock', hrun, M'⟩ := runK_update (v := v) K ht hb M hik
  have hl := Left.of (us := []) (.inl rfl) g hw (grown_set (o := .map es' clock') ⟨_, hb⟩) (fun g h => by cases h; rw [hm]; simp) (fun i _ hi => Mem.upd_other m (.map es' clock') fun e => hi (by rw [e])) (hold_set hw.hold.2 (by rw [hm]; simp))
  refine ⟨{ w with heap := w.heap.setIfInBounds b (.map es' clock') }, ?_, c.hw (m.upd b (.map es' clock')), by simpa using hl.grow, fun h => (by cases h), by simpa using hl.wd, hk es' clock' M' hl.good⟩
  show (do Instr.mapUpdate t (ms.den L ρ) (ks.den L ρ) (vs.den L ρ); pure Next.skip : Sem Next).run P w = _
  rw [hms, hkey, hvs, Sem.run_bind, hrun]; rfl
theorem DenM.lookup2 {t kt et ty : TypeId} {isK : Value → Prop} {xo yo : Operand} {ms ks : SV} {k : Tree} (K : KeyKit P kt isK) (key : Value) (es : Array MapEntry) (clock : Nat) (f : Value → Option Value) (b : Nat) (x : Int) (y : Bool) (ht : P.underlying t = some (.map kt et)) (hz : ∀ w, (zeroValue et).run P w = .ok (.int .i64 0) w)
    (hkey : ks.den L ρ = key) (hik : isK key) (hm : Good c L m → (vw c L ρ blks m).m b = some es) (M : MapK isK es clock f) (hx : (f key).getD (.int .i64 0) = .int .i64 x) (hy : (f key).isSome = y) (hk : DenM P R Dn k L (ρ ++ [.i x, .b y]) c m A) (hms : ms.den L ρ = .map (some b) := by rfl) :
    DenM P R Dn (.extp ⟨.lookup t xo yo true, ty, [ms, ks]⟩ (.tup [.int .i64, .bool]) blks k) L ρ c m A := .extp [.i x, .b y] (uOk_of rfl) (fun g w hw => by
  obtain ⟨clock', hb⟩ := Mv.of_m.1 ((vw_cell hw).m b es (hm g))
  have e1 := getElem_env ρ [.i x, .b y] 0
  have e2 := getElem_env ρ [.i x, .b y] 1
  rw [Nat.add_zero] at e1
  show (do pure (Next.value (← Instr.lookup t (ms.den L ρ) (ks.den L ρ) true)) : Sem Next).run P w = _
  have M' : MapK isK es (clock + clock') f := ⟨M.at', M.has, M.nd, fun e he => by have := M.lt e he; omega, M.bn⟩
  rw [hms, hkey, Sem.run_bind]
  have hl : (Instr.lookup t (.map (some b)) key true).run P w = .ok (.tuple #[(f key).getD (.int .i64 0), .bool (f key).isSome]) w := by
    rcases M.find K hik w with ⟨h1, h2, _⟩ | ⟨j, e, h1, h2, h3, h4⟩
    · simp [Instr.lookup, run_underlying ht, MapKept.run_getObj_map hb, K.check w _ _ hik, h1, Result.andThen, hz, h2]
    · simp [Instr.lookup, run_underlying ht, MapKept.run_getObj_map hb, K.check w _ _ hik, h1, Result.andThen, h4]
  rw [hl, hx, hy]
  simp only [Sh.fresh, Sh.freshs, SV.den, SV.dens, IT.eval, BT.eval, Env.int, Env.bool, e1, e2]
  rfl) hk
end
def isKS (v : Value) : Prop := ∃ s : Snd, v = snd s
theorem snd_inj {s t : Snd} (h : snd s = snd t) : s = t := by
  simp only [snd, Value.agg.injEq, Array.mk.injEq, List.cons.injEq, Value.int.injEq, true_and, and_true] at h
  exact Prod.ext (by omega) (by omega)
theorem run_part_k {P : Program} {e : TypeId} {kd : IntKind} (he : P.underlying e = some (.int kd)) (cs : Array Value) (o : Nat) (v : Value) (h : cs[o]? = some v) (w : World) : (part e cs o).run P w = .ok v w := by
  simp [part, isAgg, run_underlying he, Result.andThen, h]
structure SndT (P : Program) (k : TypeId) (f0 f1 : Field) (e : TypeId) : Prop where
  und : P.underlying k = some (.struct #[f0, f1])
  n0 : f0.name ≠ "_"
  n1 : f1.name ≠ "_"
  t0 : f0.type = e
  t1 : f1.type = e
  o0 : f0.offset = 0
  o1 : f1.offset = 1
  el : P.underlying e = some (.int .u32)
  held : P.stoodInHeld k = false
theorem SndT.eq {P : Program} {k e : TypeId} {f0 f1 : Field} (h : SndT P k f0 f1 e) (d : Nat) (s t : Snd) (w : World) : (Op.equalIn (d + 2) k (snd s) (snd t)).run P w = .ok (decide (s = t)) w := by
  have hf : P.fieldsOf k = #[f0, f1] := by unfold Program.fieldsOf; rw [h.und]
  have q : ∀ x y : Int, (Op.equalIn (d + 1) e (.int .u32 x) (.int .u32 y)).run P w = .ok (x == y) w := fun x y => run_equalIn_int w d e .u32 .u32 x y h.el
  unfold snd
  rw [run_equalIn_struct w (d + 1) k _ _ (by rw [hf]; exact h.und) h.held, hf]
  have p0 : ∀ (a b : Int) (w : World), (part e #[.int .u32 a, .int .u32 b] 0).run P w = .ok (.int .u32 a) w := fun a b w => run_part_k h.el #[.int .u32 a, .int .u32 b] 0 _ rfl w
  have p1 : ∀ (a b : Int) (w : World), (part e #[.int .u32 a, .int .u32 b] 1).run P w = .ok (.int .u32 b) w := fun a b w => run_part_k h.el #[.int .u32 a, .int .u32 b] 1 _ rfl w
  simp only [Op.eqFields]
  rw [if_pos h.n0, if_pos h.n1, h.t0, h.t1, h.o0, h.o1]
  simp only [Sem.run_bind, p0, p1, Result.andThen_ok, q]
  by_cases h1 : s.1 = t.1 <;> by_cases h2 : s.2 = t.2
  · have : s = t := Prod.ext h1 h2
    simp [this, q, p0, p1]
  · have : s ≠ t := fun e => h2 (by rw [e])
    have h2' : ((s.2 : Int) == (t.2 : Int)) = false := by simp; omega
    simp [h1, this, h2', q, p0, p1]
  · have : s ≠ t := fun e => h1 (by rw [e])
    have h1' : ((s.1 : Int) == (t.1 : Int)) = false := by simp; omega
    simp [this, h1', q, p0, p1]
  · have : s ≠ t := fun e => h1 (by rw [e])
    have h1' : ((s.1 : Int) == (t.1 : Int)) = false := by simp; omega
    simp [this, h1', q, p0, p1]
theorem SndT.find {P : Program} {k e : TypeId} {f0 f1 : Field} (h : SndT P k f0 f1 e) (s : Snd) (w : World) : ∀ (l : List MapEntry) (i : Nat), (∀ x ∈ l, isKS x.key) →
    ((Instr.findAsking k (snd s) l i).run P w = .ok none w ∧ ∀ x ∈ l, x.key ≠ snd s) ∨ ∃ j e, (Instr.findAsking k (snd s) l i).run P w = .ok (some (i + j, e.val)) w ∧ l[j]? = some e ∧ e.key = snd s
  | [], i, _ => .inl ⟨rfl, by simp⟩
  | x :: l, i, hl => by
    obtain ⟨t, hx⟩ := hl x (.head _)
    have he : (Op.equal k (snd s) (snd t)).run P w = .ok (decide (s = t)) w := h.eq 9998 s t w
    by_cases hq : s = t
    · refine .inr ⟨0, x, ?_, rfl, by rw [hx, hq]⟩
      rw [Instr.findAsking, hx, Sem.run_bind, he, decide_eq_true hq]; rfl
    · have hrun : (Instr.findAsking k (snd s) (x :: l) i).run P w = (Instr.findAsking k (snd s) l (i + 1)).run P w := by
        rw [Instr.findAsking, hx, Sem.run_bind, he, decide_eq_false hq]; rfl
      have hne : x.key ≠ snd s := by
        rw [hx]; intro hc; exact hq (snd_inj hc).symm
      rcases SndT.find h s w l (i + 1) fun y hy => hl y (.tail _ hy) with ⟨h1, h2⟩ | ⟨j, e, h1, h2, h3⟩
      · exact .inl ⟨hrun.trans h1, fun y hy => by
          rcases List.mem_cons.1 hy with rfl | hy
          · exact hne
          · exact h2 y hy⟩
      · exact .inr ⟨j + 1, e, hrun.trans (by rw [h1, show i + 1 + j = i + (j + 1) by omega]), h2, h3⟩
theorem KeyKit.snd {P : Program} {k e : TypeId} {f0 f1 : Field} (h : SndT P k f0 f1 e) : KeyKit P k isKS where
  check w em v hv := by
    obtain ⟨s, rfl⟩ := hv
    have p0 := run_part_k h.el #[.int .u32 s.1, .int .u32 s.2] 0 _ rfl
    have p1 := run_part_k h.el #[.int .u32 s.1, .int .u32 s.2] 1 _ rfl
    have c1 : ∀ x w, (Instr.checkKey em 9999 e (.int .u32 x)).run P w = .ok () w := fun x w => run_checkKey h.el (show IsKey (.int .u32) (.int .u32 x) from rfl) em _
    unfold Go.Sy.snd
    rw [show (10000 : Nat) = 9999 + 1 from rfl, Instr.checkKey]
    simp only [Sem.run_bind, run_underlying h.und, Result.andThen_ok]
    rw [← Array.forIn_toList]
    simp [h.n0, h.n1, h.t0, h.t1, h.o0, h.o1, p0, p1, c1]
  find w v l hv hl := by
    obtain ⟨s, rfl⟩ := hv
    cases l with
    | nil => exact .inl ⟨by simp [Instr.findKey, run_underlying h.und, Instr.findNow, Result.andThen], by simp⟩
    | cons x l =>
      have hnow : Instr.findNow (.struct #[f0, f1]) (Go.Sy.snd s) (x :: l) 0 = none := rfl
      have hrun : (Instr.findKey k (Go.Sy.snd s) (x :: l)).run P w = (Instr.findAsking k (Go.Sy.snd s) (x :: l) 0).run P w := by
        simp only [Instr.findKey, Sem.run_bind, run_underlying h.und, Result.andThen_ok, hnow]
      have := h.find s w (x :: l) 0 hl
      simpa [hrun] using this
  stays w v hv := by
    obtain ⟨s, rfl⟩ := hv
    simp [Go.Sy.snd, Instr.keyThatStays, Instr.sameBits]
end Go.Sy
namespace Go.Proofs.YtkhcfbdjmpodbaaDoor
open Go Go.Sy Go.RowKit
theorem zI (w : World) : (zeroValue 3).run Tryd.prog w = .ok (.int .i64 0) w := by
  obtain ⟨i, h1, h2⟩ : ∃ i, Tryd.prog.info? 3 = some i ∧ i.zero = some (.int .i64 0) := by
    have : ((Tryd.prog.info? 3).bind (·.zero)) = some (.int .i64 0) := by kernel_rfl
    cases h : Tryd.prog.info? 3 with
    | none => rw [h] at this; cases this
    | some i => rw [h] at this; exact ⟨i, rfl, this⟩
  exact run_zeroValue' w h1 h2
def sndTB (P : Program) (k e : TypeId) : Bool := match P.underlying k with
  | some (.struct fs) => (match fs.toList with
    | [f0, f1] => f0.name != "_" && f1.name != "_" && f0.type == e && f1.type == e && f0.offset == 0 && f1.offset == 1
    | _ => false)
  | _ => false
theorem SndT.of {P : Program} {k e : TypeId} (h : sndTB P k e = true) (h2 : P.underlying e = some (.int .u32)) (h3 : P.stoodInHeld k = false) : ∃ f0 f1, SndT P k f0 f1 e := by
  unfold sndTB at h
  cases hu : P.underlying k with
  | none => rw [hu] at h; cases h
  | some d =>
    rw [hu] at h
    cases d with
    | struct fs =>
      dsimp only at h
      cases hl : fs.toList with
      | nil => rw [hl] at h; cases h
      | cons f0 l =>
        cases l with
        | nil => rw [hl] at h; cases h
        | cons f1 l =>
          cases l with
          | cons f2 l => rw [hl] at h; cases h
          | nil =>
            rw [hl] at h
            simp only [Bool.and_eq_true, bne_iff_ne, ne_eq, beq_iff_eq] at h
            obtain ⟨⟨⟨⟨⟨a, b⟩, c⟩, d⟩, e⟩, f⟩ := h
            refine ⟨f0, f1, ?_, a, b, c, d, e, f, h2, h3⟩
            rw [hu, ← hl]
    | _ => cases h
theorem und_snd : ∃ f0 f1, SndT Tryd.prog 41 f0 f1 39 := SndT.of (by kernel_rfl) (by kernel_rfl) (by kernel_rfl)
theorem kitS : KeyKit Tryd.prog 41 isKS := by
  obtain ⟨f0, f1, h⟩ := und_snd
  exact KeyKit.snd h
theorem umS : Tryd.prog.underlying 74 = some (.map 41 3) := by kernel_rfl
end Go.Proofs.YtkhcfbdjmpodbaaDoor
