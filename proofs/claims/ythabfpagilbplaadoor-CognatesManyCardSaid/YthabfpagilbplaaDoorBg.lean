/- Maps with any kind of key: made, read, written, gone over. -/
import Derived.Test.YthabfpagilbplaaDoorBf
import Derived.MapKept
import Derived.Maps.RangeRun
import Derived.WideKeyEntry
import Derived.Carry
set_option linter.unusedSimpArgs false
set_option linter.unusedVariables false
/- Maps with any kind of key: made, read, written, gone over. -/
namespace Go.Sy
open Go Go.RowKit Go.MapKept
structure KeyKit (P : Program) (kt : TypeId) (isK : Value → Prop) : Prop where
  check : ∀ (w : World) (em : Bool) (k : Value), isK k → (Instr.checkKey em 10000 kt k).run P w = .ok () w
  find : ∀ (w : World) (k : Value) (l : List MapEntry), isK k → (∀ x ∈ l, isK x.key) → ((Instr.findKey kt k l).run P w = .ok none w ∧ ∀ x ∈ l, x.key ≠ k) ∨ ∃ j e, (Instr.findKey kt k l).run P w = .ok (some (j, e.val)) w ∧ l[j]? = some e ∧ e.key = k
  stays : ∀ (w : World) (k : Value), isK k → (Instr.keyThatStays k k).run P w = .ok k w
theorem KeyKit.int {P : Program} {kt : TypeId} {d : TypeDesc} (hd : P.underlying kt = some d) : KeyKit P kt (IsKey d) where
  check _ em _ hk := run_checkKey hd hk em _
  find w k l hk hl := by
    rcases findNow_spec hk l 0 hl with ⟨h1, h2⟩ | ⟨j, e, h1, h2, h3⟩
    · exact .inl ⟨run_findKey hd h1, h2⟩
    · exact .inr ⟨j, e, by rw [run_findKey hd h1, Nat.zero_add], h2, h3⟩
  stays _ _ hk := run_keyThatStays hk
structure MapK (isK : Value → Prop) (es : Array MapEntry) (clock : Nat) (f : Value → Option Value) : Prop where
  at' : ∀ e ∈ es.toList, isK e.key ∧ f e.key = some e.val
  has : ∀ k v, f k = some v → ∃ e ∈ es.toList, e.key = k
  nd : (es.toList.map (·.key)).Nodup
  lt : ∀ e ∈ es.toList, e.born < clock
  bn : (es.toList.map (·.born)).Nodup
theorem MapK.empty (isK : Value → Prop) : MapK isK #[] 0 fun _ => none := ⟨fun e he => by simp at he, fun k v h => (by cases h), by simp, fun e he => by simp at he, by simp⟩
open Classical in
noncomputable def updF (f : Value → Option Value) (k v : Value) : Value → Option Value := fun x => if x = k then some v else f x
theorem updF_same (f : Value → Option Value) (k v : Value) : updF f k v k = some v := by unfold updF; rw [if_pos rfl]
theorem updF_other (f : Value → Option Value) {k x : Value} (v : Value) (h : x ≠ k) : updF f k v x = f x := by unfold updF; rw [if_neg h]
theorem updF_updF (f : Value → Option Value) (k v v' : Value) : updF (updF f k v) k v' = updF f k v' := by
  funext x; unfold updF; split <;> rfl
theorem MapK.find {P : Program} {kt : TypeId} {isK : Value → Prop} (K : KeyKit P kt isK) {es : Array MapEntry} {clock : Nat} {f : Value → Option Value} (M : MapK isK es clock f) {k : Value} (hk : isK k) (w : World) :
    ((Instr.findKey kt k es.toList).run P w = .ok none w ∧ f k = none ∧ ∀ x ∈ es.toList, x.key ≠ k) ∨ ∃ j e, (Instr.findKey kt k es.toList).run P w = .ok (some (j, e.val)) w ∧ es.toList[j]? = some e ∧ e.key = k ∧ f k = some e.val := by
  rcases K.find w k es.toList hk (fun x hx => (M.at' x hx).1) with ⟨h1, h2⟩ | ⟨j, e, h1, h2, h3⟩
  · refine .inl ⟨h1, ?_, h2⟩
    cases hf : f k with
    | none => rfl
    | some v => obtain ⟨e, he, hek⟩ := M.has k v hf; exact absurd hek (h2 e he)
  · exact .inr ⟨j, e, h1, h2, h3, by rw [← h3]; exact (M.at' e (List.mem_of_getElem? h2)).2⟩
theorem MapK.push {isK : Value → Prop} {es : Array MapEntry} {clock : Nat} {f : Value → Option Value} (M : MapK isK es clock f) {k v : Value} (hk : isK k) (hn : ∀ x ∈ es.toList, x.key ≠ k) : MapK isK (es.push ⟨k, v, clock⟩) (clock + 1) (updF f k v) where
  at' e he := by
    rw [Array.toList_push, List.mem_append] at he
    rcases he with he | he
    · rw [updF_other f v (hn e he)]; exact M.at' e he
    · simp at he; subst he; exact ⟨hk, updF_same f k v⟩
  has x y h := by
    rw [Array.toList_push]
    by_cases e : x = k
    · exact ⟨_, List.mem_append_right _ (List.mem_cons_self ..), e.symm⟩
    · rw [updF_other f v e] at h
      obtain ⟨e, he, h⟩ := M.has x y h
      exact ⟨e, List.mem_append_left _ he, h⟩
  nd := by
    rw [Array.toList_push, List.map_append, List.nodup_append]
    refine ⟨M.nd, by simp, fun a ha b hb => ?_⟩
    simp at hb; subst hb
    obtain ⟨e, he, rfl⟩ := List.mem_map.1 ha
    exact hn e he
  lt e he := by
    rw [Array.toList_push, List.mem_append] at he
    rcases he with he | he
    · have := M.lt e he; omega
    · simp at he; subst he; exact Nat.lt_succ_self _
  bn := by
    rw [Array.toList_push, List.map_append, List.nodup_append]
    refine ⟨M.bn, by simp, fun a ha b hb => ?_⟩
    simp at hb; subst hb
    obtain ⟨e, he, rfl⟩ := List.mem_map.1 ha
    have := M.lt e he; omega
theorem MapK.modify {isK : Value → Prop} {es : Array MapEntry} {clock : Nat} {f : Value → Option Value} (M : MapK isK es clock f) {k v : Value} {j : Nat} {e0 : MapEntry} (hj : es.toList[j]? = some e0) (h0 : e0.key = k) (g : MapEntry → MapEntry) (hg : g e0 = { e0 with key := k, val := v }) : MapK isK (es.modify j g) clock (updF f k v) := by
  have hlt : j < es.toList.length := (List.getElem?_eq_some_iff.1 hj).1
  have hl : (es.modify j g).toList = es.toList.set j { e0 with key := k, val := v } := by
    apply List.ext_getElem?
    intro i
    rw [Array.getElem?_toList, Array.getElem?_modify, List.getElem?_set]
    by_cases e : j = i
    · subst e
      rw [if_pos rfl, if_pos rfl, if_pos hlt, ← Array.getElem?_toList, hj, ← hg]; rfl
    · rw [if_neg e, if_neg e, Array.getElem?_toList]
  have hmap : (es.toList.set j { e0 with key := k, val := v }).map (·.key) = es.toList.map (·.key) := by
    rw [List.map_set]
    apply List.ext_getElem?
    intro i
    rw [List.getElem?_set]
    by_cases e : j = i
    · subst e
      rw [if_pos rfl, if_pos (by simpa using hlt), List.getElem?_map, hj]; simp [h0]
    · rw [if_neg e]
  have hmapb : (es.toList.set j { e0 with key := k, val := v }).map (·.born) = es.toList.map (·.born) := by
    rw [List.map_set]
    apply List.ext_getElem?
    intro i
    rw [List.getElem?_set]
    by_cases e : j = i
    · subst e
      rw [if_pos rfl, if_pos (by simpa using hlt), List.getElem?_map, hj]; rfl
    · rw [if_neg e]
  have hne : ∀ e ∈ es.toList, ∀ i, es.toList[i]? = some e → i ≠ j → e.key ≠ k := fun e he i hi hij hk => by
    have h1 : (es.toList.map (·.key))[i]? = some k := by rw [List.getElem?_map, hi]; simp [hk]
    have h2 : (es.toList.map (·.key))[j]? = some k := by rw [List.getElem?_map, hj]; simp [h0]
    exact hij ((List.getElem?_inj (by simpa using (List.getElem?_eq_some_iff.1 hi).1) M.nd).1 (h1.trans h2.symm))
  refine ⟨fun e he => ?_, fun x y h => ?_, by rw [hl, hmap]; exact M.nd, fun e he => ?_, by rw [hl, hmapb]; exact M.bn⟩
  · rw [hl] at he
    obtain ⟨i, hi⟩ := List.mem_iff_getElem?.1 he
    rw [List.getElem?_set] at hi
    by_cases e' : j = i
    · subst e'
      rw [if_pos rfl, if_pos hlt] at hi
      cases hi
      exact ⟨by rw [← h0]; exact (M.at' e0 (List.mem_of_getElem? hj)).1, updF_same f k v⟩
    · rw [if_neg e'] at hi
      have := hne e (List.mem_of_getElem? hi) i hi (Ne.symm e')
      rw [updF_other f v this]
      exact M.at' e (List.mem_of_getElem? hi)
  · rw [hl]
    have hk0 : k ∈ es.toList.map (·.key) := List.mem_map.2 ⟨e0, List.mem_of_getElem? hj, h0⟩
    have hx : x ∈ es.toList.map (·.key) := by
      by_cases e : x = k
      · exact e ▸ hk0
      · rw [updF_other f v e] at h
        obtain ⟨e, he, rfl⟩ := M.has x y h
        exact List.mem_map_of_mem he
    rw [← hmap] at hx
    obtain ⟨e, he, rfl⟩ := List.mem_map.1 hx
    exact ⟨e, he, rfl⟩
  · have : e.born ∈ (es.modify j g).toList.map (·.born) := List.mem_map_of_mem he
    rw [hl, hmapb] at this
    obtain ⟨x, hx, h⟩ := List.mem_map.1 this
    rw [← h]; exact M.lt x hx
section
variable {P : Program} {w : World} {t kt et : TypeId} {isK : Value → Prop} {es : Array MapEntry} {f : Value → Option Value} {b clock : Nat}
theorem runK_lookup (K : KeyKit P kt isK) (ht : P.underlying t = some (.map kt et)) {z : Value} (hz : (zeroValue et).run P w = .ok z w) (hb : w.heap[b]? = some (.map es clock)) (M : MapK isK es clock f) {k : Value} (hk : isK k) :
    (Instr.lookup t (.map (some b)) k false).run P w = .ok ((f k).getD z) w := by
  rcases M.find K hk w with ⟨h1, h2, _⟩ | ⟨j, e, h1, h2, h3, h4⟩
  · simp [Instr.lookup, run_underlying ht, MapKept.run_getObj_map hb, K.check w _ _ hk, h1, Result.andThen, hz, h2]
  · simp [Instr.lookup, run_underlying ht, MapKept.run_getObj_map hb, K.check w _ _ hk, h1, Result.andThen, h4]
theorem runK_update (K : KeyKit P kt isK) (ht : P.underlying t = some (.map kt et)) (hb : w.heap[b]? = some (.map es clock)) (M : MapK isK es clock f) {k v : Value} (hk : isK k) :
    ∃ es' clock', (Instr.mapUpdate t (.map (some b)) k v).run P w = .ok () { w with heap := w.heap.setIfInBounds b (.map es' clock') } ∧ MapK isK es' clock' (updF f k v) := by
  rcases M.find K hk w with ⟨h1, h2, h3⟩ | ⟨j, e, h1, h2, h3, h4⟩
  · refine ⟨_, clock + 1, ?_, M.push hk h3 (v := v)⟩
    simp [Instr.mapUpdate, run_underlying ht, MapKept.run_getObj_map hb, K.check w _ _ hk, h1, Result.andThen, MapKept.run_setObj_map _ hb]
  · refine ⟨_, clock, ?_, M.modify h2 h3 (v := v) (fun e => { e with key := k, val := v }) rfl⟩
    have h2' : es[j]? = some e := by rw [← Array.getElem?_toList]; exact h2
    simp [Instr.mapUpdate, run_underlying ht, MapKept.run_getObj_map hb, K.check w _ _ hk, h1, Result.andThen, MapKept.run_setObj_map _ hb, h2', h3, K.stays w _ hk]
theorem runK_entry (K : KeyKit P kt isK) (ht : P.underlying t = some (.map kt et)) {z : Value} (hz : (zeroValue et).run P w = .ok z w) (hb : w.heap[b]? = some (.map es clock)) (M : MapK isK es clock f) {k : Value} (hk : isK k) :
    ∃ (es' : Array MapEntry) (clock' j : Nat) (e0 : MapEntry), (Instr.mapEntry t (.map (some b)) k).run P w = .ok (.tuple #[(f k).getD z, .int .i64 e0.born]) { w with heap := w.heap.setIfInBounds b (.map es' clock') } ∧ MapK isK es' clock' (updF f k ((f k).getD z)) ∧ es'.toList[j]? = some e0 ∧ e0.key = k := by
  rcases M.find K hk w with ⟨h1, h2, h3⟩ | ⟨j, e, h1, h2, h3, h4⟩
  · refine ⟨es.push ⟨k, z, clock⟩, clock + 1, es.toList.length, ⟨k, z, clock⟩, ?_, by rw [h2]; exact M.push hk h3 (v := z), by rw [Array.toList_push, List.getElem?_append_right (Nat.le_refl _), Nat.sub_self]; rfl, rfl⟩
    simp [Instr.mapEntry, run_underlying ht, MapKept.run_getObj_map hb, K.check w _ _ hk, h1, Result.andThen, MapKept.run_setObj_map _ hb, hz, h2, goInt]
  · have h2' : es[j]? = some e := by rw [← Array.getElem?_toList]; exact h2
    have hlt : j < es.toList.length := (List.getElem?_eq_some_iff.1 h2).1
    refine ⟨es.modify j (fun e => { e with key := k }), clock, j, e, ?_, by rw [h4]; exact M.modify h2 h3 (v := e.val) (fun e => { e with key := k }) rfl, ?_, h3⟩
    · simp [Instr.mapEntry, run_underlying ht, MapKept.run_getObj_map hb, K.check w _ _ hk, h1, Result.andThen, MapKept.run_setObj_map _ hb, h2', h3, K.stays w _ hk, h4, goInt]
    · rw [Array.getElem?_toList, Array.getElem?_modify, if_pos rfl, h2']
      simp [← h3]
theorem runK_store (hb : w.heap[b]? = some (.map es clock)) (M : MapK isK es clock f) {j : Nat} {e0 : MapEntry} (hj : es.toList[j]? = some e0) (v : Value) :
    ∃ es', (Instr.entryStore t (.map (some b)) (.int .i64 e0.born) v).run P w = .ok () { w with heap := w.heap.setIfInBounds b (.map es' clock) } ∧ MapK isK es' clock (updF f e0.key v) := by
  have hidx : es.findIdx? (fun e => ((e.born : Nat) : Int) == ((e0.born : Nat) : Int)) = some j := by
    rw [Go.WideElems.findIdx_arr]; exact Go.WideElems.findIdx_born M.bn hj
  refine ⟨es.modify j (fun e => { e with val := v }), ?_, M.modify hj rfl (v := v) (fun e => { e with val := v }) rfl⟩
  simp [Instr.entryStore, MapKept.run_getObj_map hb, asInt, asIntOf, hidx, MapKept.run_setObj_map _ hb, Result.andThen]
end
end Go.Sy
/- Maps with any kind of key: the rules. -/
namespace Go.Sy
open Go Go.RowKit Go.MapKept Go.ChangeMaps
section
variable {P : Program} {c : Cx} {L : List Nat} {ρ : Env} {blks : List Blk} {m : Mem} {R : Value → HW → Prop} {Dn : Nat → List U → HW → Prop} {A : List (List U → HW → Prop)}
structure Left (c : Cx) (L : List Nat) (ρ : Env) (us : List U) (blks : List Blk) (m m' : Mem) (w w' : World) : Prop where
  good : Good c L m'
  wd : Wd L (ρ ++ us) blks (c.hw m') w'
  grow : Grow (kw L ρ blks (c.hw m)) w (kw L (ρ ++ us) blks (c.hw m')) w'
theorem Left.of {us : List U} (hs : us = [] ∨ scBlks ρ.length blks = true) (g : Good c L m) {w w' : World} (hw : Wd L ρ blks (c.hw m) w) {g0 : Option Nat} {m' : Mem} (hgr : w.grownBy w' g0) (hg0 : ∀ g, g0 = some g → m g ≠ none)
    (hm' : ∀ b, b < w.heap.size → some b ≠ g0 → m' b = m b) (hH : (HW.mem m').H w') : Left c L ρ us blks m m' w w' := by
  have hgood : Good c L m' := ⟨fun b hb' ho => by
      have hlt := c.hb.inb w b hw.hold.1 ho
      by_cases e : some b = g0
      · exact g.mem b (hg0 b e.symm) ho
      · rw [hm' b hlt e] at hb'; exact g.mem b hb' ho, fun b hb' => ⟨by
      have e : some b ≠ g0 := fun e => hg0 b e.symm (g.blk b hb').1
      rw [hm' b (hw.lt b hb') e]; exact (g.blk b hb').1, (g.blk b hb').2⟩, g.nd⟩
  have hblk : ∀ b, b < w.heap.size → m b = none → w'.heap[b]? = w.heap[b]? ∧ m' b = none := fun b hb hn => by
    have e : some b ≠ g0 := fun e => hg0 b e.symm hn
    exact ⟨hgr.block b hb e, (hm' b hb e).trans hn⟩
  have hwd : Wd L ρ blks (c.hw m') w' := ⟨hw.len, fun j k hj => (hblk _ (hw.lt _ (getD_mem (by rw [hw.len]; exact (List.getElem?_eq_some_iff.1 hj).1))) (g.blk _ (getD_mem (by rw [hw.len]; exact (List.getElem?_eq_some_iff.1 hj).1))).1).1.trans (hw.blk j k hj), hw.nd, fun b hb ho => by
    rcases ho with ho | ho
    · exact (g.blk b hb).2 ho
    · exact ho (hgood.blk b hb).1, c.hb.stab w w' hw.hold.1 hgr.size (fun b hb => (hblk b (c.hb.inb w b hw.hold.1 hb) (by
      cases hm : m b with
      | none => rfl
      | some o => exact absurd hb (g.mem b (by rw [hm]; simp)))).1) hgr.tape hgr.os hgr.output, hH⟩
  refine ⟨hgood, ?_, ⟨hgr.size, fun k hk hn => ?_, hgr.tape, hgr.os, hgr.output⟩⟩
  · rcases hs with rfl | hs
    · rw [List.append_nil]; exact hwd
    · exact (Wd.letters hs).2 hwd
  · have hn' : m k = none := by
      cases hm : m k with
      | none => rfl
      | some o => exact absurd (Or.inl (.inr (by show m k ≠ none; rw [hm]; simp))) hn
    have h2 := hblk k hk hn'
    refine ⟨fun ho => ?_, h2.1⟩
    rcases ho with (ho | ho) | ho
    · exact hn (.inl (.inl ho))
    · exact ho h2.2
    · exact hn (.inr ho)
theorem grown_set {w : World} {b : Nat} {o : Obj} (h : ∃ o', w.heap[b]? = some o') : w.grownBy { w with heap := w.heap.setIfInBounds b o } (some b) := by
  obtain ⟨o', h⟩ := h
  exact ⟨rfl, rfl, rfl, by simp, fun i _ hi => (heap_set h).2 i fun e => hi (by rw [e])⟩
theorem hold_set {w : World} {b : Nat} {o : Obj} (h : (HW.mem m).H w) (hb : m b ≠ none) : (HW.mem (m.upd b o)).H { w with heap := w.heap.setIfInBounds b o } := fun i x hi => by
  obtain ⟨o', ho⟩ : ∃ o', m b = some o' := Option.ne_none_iff_exists'.1 hb
  have hbw := h b o' ho
  by_cases e : i = b
  · rw [e, Mem.upd_same] at hi
    cases hi
    rw [e]; exact (heap_set hbw).1
  · rw [Mem.upd_other _ _ e] at hi
    exact ((heap_set hbw).2 i e).trans (h i x hi)
theorem DenM.mkMapK {p : Bool} {t ty : TypeId} {k : Tree} (hk : ∀ b, m b = none → b ∉ L → DenM P R Dn k L (ρ ++ [.v (.map (some b))]) c (m.upd b (.map #[] 0)) A) (hs : scBlks ρ.length blks = true := by rfl) : DenM P R Dn (.ext p ⟨.makeMap t none, ty, []⟩ .val blks k) L ρ c m A := .extM hs fun g w hw => by
  have hlt : ∀ b, m b ≠ none → b < w.heap.size := fun b hb => (HW.mem m).inb w b hw.hold.2 hb
  have hmn : m w.heap.size = none := by
    cases h : m w.heap.size with
    | none => rfl
    | some o => have := hlt w.heap.size (by rw [h]; simp); omega
  have hL : w.heap.size ∉ L := fun h => by have := hw.lt _ h; omega
  refine ⟨.map (some w.heap.size), w.alloc (.map #[] 0), none, m.upd w.heap.size (.map #[] 0), [.v (.map (some w.heap.size))], ?_, World.grownBy_alloc w (.map #[] 0) none, fun _ h => (by cases h), fun b hb _ => Mem.upd_other _ _ (by omega), fun b o hb => ?_, fun _ => rfl, uOk_of rfl, ?_, hk w.heap.size hmn hL⟩
  · show (do pure (Next.value (← Instr.makeMap t none)) : Sem Next).run P w = _
    rw [Sem.run_bind, run_makeMap]; rfl
  · by_cases e : b = w.heap.size
    · rw [e, Mem.upd_same] at hb
      cases hb
      rw [e]; exact (MapKept.heap_alloc w _).1
    · rw [Mem.upd_other _ _ e] at hb
      have h1 := hw.hold.2 b o hb
      have h2 := hlt b (by rw [hb]; simp)
      rw [← h1]
      exact (MapKept.heap_alloc w _).2 b h2
  · have := getElem_env ρ [.v (.map (some w.heap.size))] 0
    rw [Nat.add_zero] at this
    simp only [Sh.fresh, SV.den, Env.val, this]; rfl
theorem DenM.lookupK {t kt et ty : TypeId} {isK : Value → Prop} {xo yo : Operand} {ms ks : SV} {sh : Sh} {k : Tree} (K : KeyKit P kt isK) (z key : Value) (es : Array MapEntry) (clock : Nat) (f : Value → Option Value) (b : Nat) (us : List U) (ht : P.underlying t = some (.map kt et)) (hz : ∀ w, (zeroValue et).run P w = .ok z w)
    (hkey : ks.den L ρ = key) (hik : isK key) (hm : m b = some (.map es clock)) (M : MapK isK es clock f) (hus : UOk sh us) (hv : (f key).getD z = (sh.fresh ρ.length).1.den L (ρ ++ us)) (hk : DenM P R Dn k L (ρ ++ us) c m A) (hms : ms.den L ρ = .map (some b) := by rfl) :
    DenM P R Dn (.extp ⟨.lookup t xo yo false, ty, [ms, ks]⟩ sh blks k) L ρ c m A := .extp us hus (fun g w hw => by
  have hb := hw.hold.2 b _ hm
  show (do pure (Next.value (← Instr.lookup t (ms.den L ρ) (ks.den L ρ) false)) : Sem Next).run P w = _
  rw [hms, hkey, Sem.run_bind, runK_lookup K ht (hz w) hb M hik, hv]; rfl) hk
theorem DenM.updateK {t kt et ty : TypeId} {isK : Value → Prop} {xo yo zo : Operand} {ms ks vs : SV} {k : Tree} (K : KeyKit P kt isK) (key v : Value) (es : Array MapEntry) (f : Value → Option Value) (b clock : Nat) (ht : P.underlying t = some (.map kt et))
    (hkey : ks.den L ρ = key) (hik : isK key) (hvs : vs.den L ρ = v) (hm : m b = some (.map es clock)) (M : MapK isK es clock f) (hk : ∀ es' clock', MapK isK es' clock' (updF f key v) → DenM P R Dn k L ρ c (m.upd b (.map es' clock')) A) (hms : ms.den L ρ = .map (some b) := by rfl) :
    DenM P R Dn (.extu false ⟨.mapUpdate t xo yo zo, ty, [ms, ks, vs]⟩ blks k) L ρ c m A := fun g w hw => by
  have hb := hw.hold.2 b _ hm
  obtain ⟨es', clock', hrun, M'⟩ := runK_update (v := v) K ht hb M hik
  have hl := Left.of (us := []) (.inl rfl) g hw (grown_set (o := .map es' clock') ⟨_, hb⟩) (fun g h => by cases h; rw [hm]; simp) (fun i _ hi => Mem.upd_other m (.map es' clock') fun e => hi (by rw [e])) (hold_set hw.hold.2 (by rw [hm]; simp))
  refine ⟨{ w with heap := w.heap.setIfInBounds b (.map es' clock') }, ?_, c.hw (m.upd b (.map es' clock')), by simpa using hl.grow, fun h => (by cases h), by simpa using hl.wd, hk es' clock' M' hl.good⟩
  show (do Instr.mapUpdate t (ms.den L ρ) (ks.den L ρ) (vs.den L ρ); pure Next.skip : Sem Next).run P w = _
  rw [hms, hkey, hvs, Sem.run_bind, hrun]; rfl
theorem DenM.entryK {t kt et ty ty' : TypeId} {isK : Value → Prop} {xo yo xo' yo' : Operand} {ms ks : SV} {k : Tree} (K : KeyKit P kt isK) (z0 : Int) (n0 : Int) (key : Value) (es : Array MapEntry) (clock : Nat) (f : Value → Option Value) (b : Nat) (ht : P.underlying t = some (.map kt et)) (hz : ∀ w, (zeroValue et).run P w = .ok (.int .i64 z0) w)
    (hkey : ks.den L ρ = key) (hik : isK key) (hm : m b = some (.map es clock)) (M : MapK isK es clock f) (hv : (f key).getD (.int .i64 z0) = .int .i64 n0) (hs : scBlks ρ.length blks = true)
    (hk : ∀ (es' : Array MapEntry) (clock' j : Nat) (e0 : MapEntry), MapK isK es' clock' (updF f key (.int .i64 n0)) → es'.toList[j]? = some e0 → e0.key = key → DenM P R Dn k L (ρ ++ [.i n0, .i e0.born]) c (m.upd b (.map es' clock')) A) (hms : ms.den L ρ = .map (some b) := by rfl) :
    DenM P R Dn (.exk ⟨.mapEntry t xo yo, ty, [ms, ks]⟩ (.tup [.int .i64, .int .i64]) blks ⟨.lookup t xo' yo' false, ty', [ms, ks]⟩ k) L ρ c m A := fun g w hw => by
  have hb := hw.hold.2 b _ hm
  obtain ⟨es', clock', j, e0, hrun, M', hj, h0⟩ := runK_entry K ht (hz w) hb M hik
  rw [hv] at hrun M'
  have hl := Left.of (us := [.i n0, .i e0.born]) (.inr hs) g hw (grown_set (o := .map es' clock') ⟨_, hb⟩) (fun g h => by cases h; rw [hm]; simp) (fun i _ hi => Mem.upd_other m (.map es' clock') fun e => hi (by rw [e])) (hold_set hw.hold.2 (by rw [hm]; simp))
  refine ⟨.tuple #[.int .i64 n0, .int .i64 e0.born], { w with heap := w.heap.setIfInBounds b (.map es' clock') }, ?_, [.i n0, .i e0.born], c.hw (m.upd b (.map es' clock')), uOk_of rfl, ?_, hl.grow, .inl ⟨.int .i64 n0, fun w2 hw2 => ?_, fun w2 hw2 => ?_⟩, hl.wd, hk es' clock' j e0 M' hj h0 hl.good⟩
  · show (do pure (Next.value (← Instr.mapEntry t (ms.den L ρ) (ks.den L ρ))) : Sem Next).run P w = _
    rw [hms, hkey, Sem.run_bind, hrun]; rfl
  · have e1 := getElem_env ρ [.i n0, .i e0.born] 0
    have e2 := getElem_env ρ [.i n0, .i e0.born] 1
    rw [Nat.add_zero] at e1
    simp only [Sh.fresh, Sh.freshs, SV.dens, SV.den, IT.eval, Env.int]
    rw [e1, e2]; rfl
  · have hb2 := Wd.hold hw2
    have hb2 := hb2.2 b _ hm
    show (do pure (Next.value (← Instr.lookup t (ms.den L ρ) (ks.den L ρ) false)) : Sem Next).run P w2 = _
    rw [hms, hkey, Sem.run_bind, runK_lookup K ht (hz w2) hb2 M hik, hv]; rfl
  · have hb2 := Wd.hold hw2
    have hb2 := hb2.2 b _ (Mem.upd_same ..)
    show (do pure (Next.value (← Instr.lookup t (ms.den L ρ) (ks.den L ρ) false)) : Sem Next).run P w2 = _
    rw [hms, hkey, Sem.run_bind, runK_lookup K ht (hz w2) hb2 M' hik, updF_same]; rfl
theorem DenM.storeK {t ty : TypeId} {isK : Value → Prop} {xo yo zo : Operand} {ms st vs : SV} {k : Tree} (v : Value) (es : Array MapEntry) (f : Value → Option Value) (b clock j : Nat) (e0 : MapEntry) (hj : es.toList[j]? = some e0) (hst : st.den L ρ = .int .i64 e0.born) (hvs : vs.den L ρ = v) (hm : m b = some (.map es clock)) (M : MapK isK es clock f)
    (hk : ∀ es', MapK isK es' clock (updF f e0.key v) → DenM P R Dn k L ρ c (m.upd b (.map es' clock)) A) (hms : ms.den L ρ = .map (some b) := by rfl) :
    DenM P R Dn (.extu false ⟨.entryStore t xo yo zo, ty, [ms, st, vs]⟩ blks k) L ρ c m A := fun g w hw => by
  have hb := hw.hold.2 b _ hm
  obtain ⟨es', hrun, M'⟩ := runK_store (P := P) (t := t) hb M hj v
  have hl := Left.of (us := []) (.inl rfl) g hw (grown_set (o := .map es' clock) ⟨_, hb⟩) (fun g h => by cases h; rw [hm]; simp) (fun i _ hi => Mem.upd_other m (.map es' clock) fun e => hi (by rw [e])) (hold_set hw.hold.2 (by rw [hm]; simp))
  refine ⟨{ w with heap := w.heap.setIfInBounds b (.map es' clock) }, ?_, c.hw (m.upd b (.map es' clock)), by simpa using hl.grow, fun h => (by cases h), by simpa using hl.wd, hk es' M' hl.good⟩
  show (do Instr.entryStore t (ms.den L ρ) (st.den L ρ) (vs.den L ρ); pure Next.skip : Sem Next).run P w = _
  rw [hms, hst, hvs, Sem.run_bind, hrun]; rfl
theorem DenM.mkIter {p : Bool} {t kt et ty : TypeId} {xo : Operand} {ms : SV} {k : Tree} (es : Array MapEntry) (b clock : Nat) (ht : P.underlying t = some (.map kt et)) (hm : m b = some (.map es clock)) (hk : ∀ r, m r = none → r ∉ L → DenM P R Dn k L (ρ ++ [.p (some ⟨r, 0, none⟩)]) c (m.upd r (.mapIter (some b) clock #[] clock)) A) (hms : ms.den L ρ = .map (some b) := by rfl) (hs : scBlks ρ.length blks = true := by rfl) :
    DenM P R Dn (.ext p ⟨.range t xo, ty, [ms]⟩ .ptr blks k) L ρ c m A := .extM hs fun g w hw => by
  have hlt : ∀ b, m b ≠ none → b < w.heap.size := fun b hb => (HW.mem m).inb w b hw.hold.2 hb
  have hmn : m w.heap.size = none := by
    cases h : m w.heap.size with
    | none => rfl
    | some o => have := hlt w.heap.size (by rw [h]; simp); omega
  have hL : w.heap.size ∉ L := fun h => by have := hw.lt _ h; omega
  refine ⟨.pointer (some ⟨w.heap.size, 0, none⟩), w.alloc (.mapIter (some b) clock #[] clock), none, m.upd w.heap.size (.mapIter (some b) clock #[] clock), [.p (some ⟨w.heap.size, 0, none⟩)], ?_, World.grownBy_alloc w _ none, fun _ h => (by cases h), fun b hb _ => Mem.upd_other _ _ (by omega), fun b' o hb => ?_, fun _ => rfl, uOk_of rfl, ?_, hk w.heap.size hmn hL⟩
  · show (do pure (Next.value (← Instr.range t (ms.den L ρ))) : Sem Next).run P w = _
    rw [hms, Sem.run_bind, run_range_map w t kt et b es clock ht (hw.hold.2 b _ hm)]; rfl
  · by_cases e : b' = w.heap.size
    · rw [e, Mem.upd_same] at hb
      cases hb
      rw [e]; exact (MapKept.heap_alloc w _).1
    · rw [Mem.upd_other _ _ e] at hb
      have h1 := hw.hold.2 b' o hb
      have h2 := hlt b' (by rw [hb]; simp)
      rw [← h1]
      exact (MapKept.heap_alloc w _).2 b' h2
  · have := getElem_env ρ [.p (some ⟨w.heap.size, 0, none⟩)] 0
    rw [Nat.add_zero] at this
    simp only [Sh.fresh, SV.den, IT.eval, atAddr, Env.ptr, this]; rfl
theorem DenM.next {ty : TypeId} {xo : Operand} {it : SV} {shs : List Sh} {kT kF : Tree} {isK : Value → Prop} {f : Value → Option Value} (es : Array MapEntry) (b r clock : Nat) (seen : Array Nat) (us : MapEntry → List U) (hr : m r = some (.mapIter (some b) clock seen clock)) (hm : m b = some (.map es clock)) (M : MapK isK es clock f)
    (hus : ∀ e ∈ es.toList, UsOk shs (us e) ∧ SV.dens L (ρ ++ us e) (Sh.freshs shs ρ.length).1 = [e.key, e.val])
    (hT : ∀ e ∈ (leftOf es seen).toList, DenM P R Dn kT L (ρ ++ us e) c (m.upd r (.mapIter (some b) clock (seen.push e.born) clock)) A) (hF : (leftOf es seen).size = 0 → DenM P R Dn kF L ρ c m A) (hs : scBlks ρ.length blks = true := by rfl) (hit : it.den L ρ = .pointer (some ⟨r, 0, none⟩) := by rfl) :
    DenM P R Dn (.nxt false ⟨.next xo false, ty, [it]⟩ shs blks kT kF) L ρ c m A := fun g w hw => by
  have hbw := hw.hold.2 b _ hm
  have hrw := hw.hold.2 r _ hr
  rcases run_next_at (P := P) w ty r b clock clock seen es clock hrw hbw M.lt (Nat.le_refl _) with ⟨h0, hrun⟩ | ⟨e, he, w1, hw1, hrun⟩
  · refine ⟨_, w, ?_, .inr ⟨c.hw m, rfl, Grow.refl _ w, fun h => (by cases h), hw, hF h0 g⟩⟩
    show (do pure (Next.value (← Instr.next (it.den L ρ) false ty)) : Sem Next).run P w = _
    rw [hit, Sem.run_bind, hrun]; rfl
  · have hes : e ∈ es.toList := by
      unfold leftOf at he
      simp at he
      simpa using he.1
    have hgr : w.grownBy (setBlock w1 r (.mapIter (some b) clock (seen.push e.born) clock)) (some r) := by
      rcases hw1 with rfl | rfl
      · exact grown_set ⟨_, hrw⟩
      · refine ⟨rfl, rfl, rfl, ?_, fun i _ hi => (heap_set hrw).2 i fun e => hi (by rw [e])⟩
        show w.heap.size ≤ (w.heap.setIfInBounds r _).size
        rw [Array.size_setIfInBounds]; exact Nat.le_refl _
    have hH : (HW.mem (m.upd r (.mapIter (some b) clock (seen.push e.born) clock))).H (setBlock w1 r (.mapIter (some b) clock (seen.push e.born) clock)) := by
      have := hold_set (o := .mapIter (some b) clock (seen.push e.born) clock) hw.hold.2 (b := r) (by rw [hr]; simp)
      rcases hw1 with rfl | rfl
      · exact this
      · exact this
    have hl := Left.of (us := us e) (.inr hs) g hw hgr (fun g h => by cases h; rw [hr]; simp) (fun i _ hi => Mem.upd_other m (.mapIter (some b) clock (seen.push e.born) clock) fun e => hi (by rw [e])) hH
    have h2 := hus e hes
    refine ⟨.tuple #[.bool true, e.key, e.val], setBlock w1 r (.mapIter (some b) clock (seen.push e.born) clock), ?_, .inl ⟨us e, c.hw (m.upd r (.mapIter (some b) clock (seen.push e.born) clock)), h2.1, ?_, hl.grow, fun h => (by cases h), hl.wd, hT e he hl.good⟩⟩
    · show (do pure (Next.value (← Instr.next (it.den L ρ) false ty)) : Sem Next).run P w = _
      rw [hit, Sem.run_bind, hrun]; rfl
    · rw [h2.2]
theorem DenM.entryIt {ty : TypeId} {xo : Operand} {it : SV} {sh : Sh} {k : Tree} {isK : Value → Prop} {f : Value → Option Value} (es : Array MapEntry) (b r clock : Nat) (seen : Array Nat) (e : MapEntry) (us : List U) (he : e ∈ (leftOf es seen).toList) (hr : m r = some (.mapIter (some b) clock (seen.push e.born) clock)) (hm : m b = some (.map es clock)) (M : MapK isK es clock f)
    (hus : UOk sh us) (hv : .tuple #[e.key, e.val] = (sh.fresh ρ.length).1.den L (ρ ++ us)) (hk : DenM P R Dn k L (ρ ++ us) c m A) (hs : scBlks ρ.length blks = true := by rfl) (hit : it.den L ρ = .pointer (some ⟨r, 0, none⟩) := by rfl) :
    DenM P R Dn (.ext false ⟨.entry xo, ty, [it]⟩ sh blks k) L ρ c m A := .extM hs fun g w hw => by
  have hes : e ∈ es.toList := by
    unfold leftOf at he
    simp at he
    simpa using he.1
  refine ⟨.tuple #[e.key, e.val], w, none, m, us, ?_, ⟨rfl, rfl, rfl, Nat.le_refl _, fun _ _ _ => rfl⟩, fun _ h => (by cases h), fun _ _ _ => rfl, hw.hold.2, fun _ => rfl, hus, hv, hk⟩
  show (do pure (Next.value (← Instr.entry (it.den L ρ))) : Sem Next).run P w = _
  rw [hit, Sem.run_bind, run_entry_at w r b clock seen es clock e (hw.hold.2 r _ hr) (hw.hold.2 b _ hm) hes M.bn]; rfl
end
end Go.Sy
/- Keys of two numbers; counts of things in maps; counted. -/
namespace Go.Sy
open Go Go.RowKit Go.MapKept Go.ChangeMaps
def isK2 (v : Value) : Prop := ∃ a b, v = .agg #[.int .i64 a, .int .i64 b]
theorem run_part_int {P : Program} {e : TypeId} (he : P.underlying e = some (.int .i64)) (cs : Array Value) (o : Nat) (v : Value) (h : cs[o]? = some v) (w : World) : (part e cs o).run P w = .ok v w := by
  simp [part, isAgg, run_underlying he, Result.andThen, h]
theorem run_size_int {P : Program} {e : TypeId} (hs : (P.info? e).map (·.size) = some 1) (w : World) : (sizeOf e).run P w = .ok 1 w := by
  cases hi : P.info? e with
  | none => rw [hi] at hs; cases hs
  | some i =>
    rw [hi] at hs
    simp at hs
    simp [sizeOf, typeInfo, hi, hs]
theorem arr_eq {P : Program} {k e : TypeId} (hk : P.underlying k = some (.array 2 e)) (he : P.underlying e = some (.int .i64)) (hs : (P.info? e).map (·.size) = some 1) (d : Nat) (a b a' b' : Int) (w : World) : (Op.equalIn (d + 2) k (.agg #[.int .i64 a, .int .i64 b]) (.agg #[.int .i64 a', .int .i64 b'])).run P w = .ok ((a == a') && (b == b')) w := by
  have hsz := run_size_int hs
  have pp : ∀ (cs : Array Value) (o : Nat) (v : Value) (h : cs[o]? = some v) (w : World), (part e cs o).run P w = .ok v w := fun cs o v h w => run_part_int he cs o v h w
  have q : ∀ x y, (Op.equalIn (d + 1) e (.int .i64 x) (.int .i64 y)).run P w = .ok (x == y) w := fun x y => run_equalIn_int w d e .i64 .i64 x y he
  rw [Op.equalIn]
  simp only [Sem.run_bind, run_underlying hk, Result.andThen_ok, hsz w]
  simp only [Std.Legacy.Range.forIn_eq_forIn_range', Std.Legacy.Range.size, Nat.sub_zero, Nat.add_sub_cancel, Nat.div_one, List.range'_succ, List.range'_zero, List.forIn_cons, List.forIn_nil]
  simp only [Sem.run_bind, Result.andThen_ok, pp #[.int .i64 a, .int .i64 b] (0 * 1) _ rfl, pp #[.int .i64 a', .int .i64 b'] (0 * 1) _ rfl]
  by_cases h1 : a = a' <;> by_cases h2 : b = b' <;> simp [h1, h2, pp #[.int .i64 a', .int .i64 b'] 1 _ rfl, pp #[.int .i64 a', .int .i64 b] 1 _ rfl, q]
theorem find_arr {P : Program} {k e : TypeId} (hk : P.underlying k = some (.array 2 e)) (he : P.underlying e = some (.int .i64)) (hs : (P.info? e).map (·.size) = some 1) (a b : Int) (w : World) : ∀ (l : List MapEntry) (i : Nat), (∀ x ∈ l, isK2 x.key) →
    ((Instr.findAsking k (.agg #[.int .i64 a, .int .i64 b]) l i).run P w = .ok none w ∧ ∀ x ∈ l, x.key ≠ .agg #[.int .i64 a, .int .i64 b]) ∨ ∃ j e, (Instr.findAsking k (.agg #[.int .i64 a, .int .i64 b]) l i).run P w = .ok (some (i + j, e.val)) w ∧ l[j]? = some e ∧ e.key = .agg #[.int .i64 a, .int .i64 b]
  | [], i, _ => .inl ⟨rfl, by simp⟩
  | x :: l, i, h => by
    obtain ⟨a', b', hx⟩ := h x (.head _)
    have he := arr_eq hk he hs 9998 a b a' b' w
    have he' : (Op.equal k (.agg #[.int .i64 a, .int .i64 b]) (.agg #[.int .i64 a', .int .i64 b'])).run P w = .ok ((a == a') && (b == b')) w := he
    by_cases hq : ((a == a') && (b == b')) = true
    · have hq' : a = a' ∧ b = b' := by simpa using hq
      refine .inr ⟨0, x, ?_, rfl, by rw [hx, hq'.1, hq'.2]⟩
      rw [Instr.findAsking, hx, Sem.run_bind, he', hq]; rfl
    · have hq2 : ((a == a') && (b == b')) = false := by simpa using hq
      have hrun : (Instr.findAsking k (.agg #[.int .i64 a, .int .i64 b]) (x :: l) i).run P w = (Instr.findAsking k (.agg #[.int .i64 a, .int .i64 b]) l (i + 1)).run P w := by
        rw [Instr.findAsking, hx, Sem.run_bind, he', hq2]; rfl
      have hne : x.key ≠ .agg #[.int .i64 a, .int .i64 b] := by
        rw [hx]; intro hc
        simp at hc
        simp [hc.1, hc.2] at hq
      rcases find_arr hk ‹_› hs a b w l (i + 1) fun y hy => h y (.tail _ hy) with ⟨h1, h2⟩ | ⟨j, e, h1, h2, h3⟩
      · exact .inl ⟨hrun.trans h1, fun y hy => by
          rcases List.mem_cons.1 hy with rfl | hy
          · exact hne
          · exact h2 y hy⟩
      · exact .inr ⟨j + 1, e, hrun.trans (by rw [h1, show i + 1 + j = i + (j + 1) by omega]), h2, h3⟩
theorem KeyKit.arr {P : Program} {k e : TypeId} (hk : P.underlying k = some (.array 2 e)) (he : P.underlying e = some (.int .i64)) (hs : (P.info? e).map (·.size) = some 1) : KeyKit P k isK2 where
  check w em v hv := by
    obtain ⟨a, b, rfl⟩ := hv
    have hsz := run_size_int hs
    have p0 := run_part_int he #[.int .i64 a, .int .i64 b] 0 _ rfl
    have p1 := run_part_int he #[.int .i64 a, .int .i64 b] 1 _ rfl
    have c1 : ∀ x w, (Instr.checkKey em 9999 e (.int .i64 x)).run P w = .ok () w := fun x w => run_checkKey he (show IsKey (.int .i64) (.int .i64 x) from rfl) em _
    rw [show (10000 : Nat) = 9999 + 1 from rfl, Instr.checkKey]
    simp only [Sem.run_bind, run_underlying hk, Result.andThen_ok]
    simp only [Std.Legacy.Range.forIn_eq_forIn_range', Std.Legacy.Range.size, Nat.sub_zero, Nat.add_sub_cancel, Nat.div_one, List.range'_succ, List.range'_zero, List.forIn_cons, List.forIn_nil]
    simp [hsz, p0, p1, c1]
  find w v l hv hl := by
    obtain ⟨a, b, rfl⟩ := hv
    cases l with
    | nil => exact .inl ⟨by simp [Instr.findKey, run_underlying hk, Instr.findNow, Result.andThen], by simp⟩
    | cons x l =>
      have hnow : Instr.findNow (.array 2 e) (.agg #[.int .i64 a, .int .i64 b]) (x :: l) 0 = none := rfl
      have hrun : (Instr.findKey k (.agg #[.int .i64 a, .int .i64 b]) (x :: l)).run P w = (Instr.findAsking k (.agg #[.int .i64 a, .int .i64 b]) (x :: l) 0).run P w := by
        simp only [Instr.findKey, Sem.run_bind, run_underlying hk, Result.andThen_ok, hnow]
      have := find_arr hk he hs a b w (x :: l) 0 hl
      simpa [hrun] using this
  stays w v hv := by
    obtain ⟨a, b, rfl⟩ := hv
    simp [Instr.keyThatStays, Instr.sameBits]
end Go.Sy
namespace Go.Sy
open Go Go.RowKit Go.MapKept
def cnt {α : Type} [DecidableEq α] (x : α) (ks : List α) : Nat := ks.count x
theorem cnt_le {α : Type} [DecidableEq α] (x : α) (ks : List α) : cnt x ks ≤ ks.length := List.count_le_length
structure CntM {α : Type} [DecidableEq α] (isK : Value → Prop) (enc : α → Value) (es : Array MapEntry) (clock : Nat) (ks : List α) : Prop where
  map : ∃ f, MapK isK es clock f ∧ ∀ x, f (enc x) = if x ∈ ks then some (.int .i64 (cnt x ks : Nat)) else none
  key : ∀ v, isK v → ∃ x, v = enc x
  isk : ∀ x, isK (enc x)
  inj : ∀ x y, enc x = enc y → x = y
theorem CntM.empty {α : Type} [DecidableEq α] {isK : Value → Prop} {enc : α → Value} (h1 : ∀ v, isK v → ∃ x, v = enc x) (h2 : ∀ x, isK (enc x)) (h3 : ∀ x y, enc x = enc y → x = y) : CntM isK enc #[] 0 ([] : List α) := ⟨⟨_, MapK.empty _, fun x => by simp⟩, h1, h2, h3⟩
theorem CntM.get {α : Type} [DecidableEq α] {isK : Value → Prop} {enc : α → Value} {es : Array MapEntry} {clock : Nat} {ks : List α} {f : Value → Option Value} (h : ∀ x, f (enc x) = if x ∈ ks then some (.int .i64 (cnt x ks : Nat)) else none) (x : α) : (f (enc x)).getD (.int .i64 0) = .int .i64 (cnt x ks : Nat) := by
  rw [h]
  split
  · rfl
  · rename_i hn; rw [cnt, List.count_eq_zero.2 hn]; rfl
theorem CntM.add {α : Type} [DecidableEq α] {isK : Value → Prop} {enc : α → Value} {es es' : Array MapEntry} {clock clock' : Nat} {ks : List α} (C : CntM isK enc es clock ks) {f : Value → Option Value} (h : ∀ x, f (enc x) = if x ∈ ks then some (.int .i64 (cnt x ks : Nat)) else none) (x : α) (v : Value) (hv : v = .int .i64 ((cnt x ks : Nat) + 1 : Int)) (M : MapK isK es' clock' (updF f (enc x) v)) : CntM isK enc es' clock' (ks ++ [x]) := by
  refine ⟨⟨_, M, fun y => ?_⟩, C.key, C.isk, C.inj⟩
  by_cases e : y = x
  · subst e
    rw [updF_same, if_pos (by simp), hv, cnt, cnt, List.count_append]
    simp
  · rw [updF_other _ _ (fun hc => e (C.inj _ _ hc)), h, cnt, cnt, List.count_append]
    have : List.count y [x] = 0 := List.count_eq_zero.2 (by simpa using e)
    rw [this, Nat.add_zero]
    by_cases hm : y ∈ ks
    · rw [if_pos hm, if_pos (by simp [hm])]
    · rw [if_neg hm, if_neg (by simp [hm, e])]
def encI (x : Int) : Value := .int .i64 x
def enc2 (p : Int × Int) : Value := .agg #[.int .i64 p.1, .int .i64 p.2]
theorem encI_inj (x y : Int) (h : encI x = encI y) : x = y := by simpa [encI] using h
theorem enc2_inj (x y : Int × Int) (h : enc2 x = enc2 y) : x = y := by
  simp [enc2] at h; exact Prod.ext h.1 h.2
def okV (p : Int × Int) : Bool := decide (0 ≤ p.1) && decide (0 ≤ p.2)
def valV (a b : List Int) (i : Nat) : List (Int × Int) := ((a.zip b).take i).filter okV
theorem valV_succ (a b : List Int) (i : Nat) (ha : i < a.length) (hb : i < b.length) : valV a b (i + 1) = if okV (labAt a i, labAt b i) then valV a b i ++ [(labAt a i, labAt b i)] else valV a b i := by
  have hz : i < (a.zip b).length := by simp; omega
  unfold valV
  rw [List.take_succ_eq_append_getElem hz, List.filter_append, List.getElem_zip, List.filter_cons, List.filter_nil]
  unfold labAt
  rw [List.getElem?_eq_getElem ha, List.getElem?_eq_getElem hb]
  simp only [Option.getD_some]
  split <;> simp
end Go.Sy
namespace Go.Proofs.YthabfpagilbplaaDoor
open Go Go.Sy Go.RowKit Go.MapKept
theorem z64 (w : World) : (zeroValue 2).run Tryd.prog w = .ok (.int .i64 0) w := by
  have h1 : (Tryd.prog.info? 2).map (·.zero) = some (some (.int .i64 0)) := by kernel_rfl
  cases h : Tryd.prog.info? 2 with
  | none => rw [h] at h1; cases h1
  | some i =>
    rw [h] at h1
    simp at h1
    exact run_zeroValue' w h h1
theorem kit2 : KeyKit Tryd.prog 115 isK2 := KeyKit.arr (e := 3) (by kernel_rfl) (by kernel_rfl) (by kernel_rfl)
theorem kitI : KeyKit Tryd.prog 3 (IsKey (.int .i64)) := KeyKit.int (by kernel_rfl)
theorem um2 : Tryd.prog.underlying 109 = some (.map 115 2) := by kernel_rfl
theorem umI : Tryd.prog.underlying 110 = some (.map 3 2) := by kernel_rfl
abbrev Cnt2 (es : Array MapEntry) (clock : Nat) (ks : List (Int × Int)) : Prop := CntM isK2 enc2 es clock ks
abbrev CntI (es : Array MapEntry) (clock : Nat) (ks : List Int) : Prop := CntM (IsKey (.int .i64)) encI es clock ks
theorem cnt2_empty : Cnt2 #[] 0 [] := CntM.empty (fun v ⟨a, b, h⟩ => ⟨(a, b), h⟩) (fun x => ⟨_, _, rfl⟩) enc2_inj
theorem cntI_empty : CntI #[] 0 [] := CntM.empty (fun v h => by
  cases v with
  | int k x => simp [IsKey] at h; subst h; exact ⟨x, rfl⟩
  | _ => cases h) (fun x => rfl) encI_inj
structure CtM (m : Mem) (b0 b1 b2 : Nat) (ps : List (Int × Int)) : Prop where
  both : ∃ es clock, m b0 = some (.map es clock) ∧ Cnt2 es clock ps
  own0 : ∃ es clock, m b1 = some (.map es clock) ∧ CntI es clock (ps.map (·.1))
  own1 : ∃ es clock, m b2 = some (.map es clock) ∧ CntI es clock (ps.map (·.2))
  ne : b0 ≠ b1 ∧ b0 ≠ b2 ∧ b1 ≠ b2
theorem c_counted (p q : Option Addr) (cp cq : Nat) (a b : List Int) (hab : b.length = a.length) (h256 : a.length ≤ 256) : FnM Tryd.prog n_cognates_counted [slv p a.length cp, slv q a.length cq] (fun R => Cells R p (intsL a) ∧ Cells R q (intsL b)) fun v mq _ => ∃ b0 b1 b2, v = .agg #[.int .i64 ((valV a b a.length).length : Nat), .map (some b0), .map (some b1), .map (some b2)] ∧ CtM mq b0 b1 b2 (valV a b a.length) := by
  refine FnM.of S_cognates_counted mx [.p p, .i a.length, .i cp, .p q, .i a.length, .i cq] rfl rfl fun c hp => .alloc fun l0 => .mkMapK fun b0 hb0 _ => .mkMapK fun b1 hb1 _ => .mkMapK fun b2 hb2 _ => .alloc fun l1 => .chk (by ((try simp only [evE, liE, lO, lU, snd]); (try simp only [cmE])); omega) ?_
  have n01 : b1 ≠ b0 := fun e => by rw [e, Mem.upd_same] at hb1; cases hb1
  have n12 : b2 ≠ b1 := fun e => by rw [e, Mem.upd_same] at hb2; cases hb2
  have n02 : b2 ≠ b0 := fun e => by rw [e, Mem.upd_other _ _ (Ne.symm n01), Mem.upd_same] at hb2; cases hb2
  refine .loop (fun n us m => ∃ i : Nat, i ≤ a.length ∧ n = a.length - i ∧ us = [.i i, .i ((valV a b i).length : Nat), .v (.map (some b0)), .v (.map (some b1)), .v (.map (some b2))] ∧ CtM m b0 b1 b2 (valV a b i)) a.length ⟨0, Nat.zero_le _, rfl, rfl, ⟨_, _, ?_, cnt2_empty⟩, ⟨_, _, ?_, cntI_empty⟩, ⟨_, _, Mem.upd_same .., cntI_empty⟩, Ne.symm n01, Ne.symm n02, Ne.symm n12⟩ ?_
  · rw [Mem.upd_other _ _ (Ne.symm n02), Mem.upd_other _ _ (Ne.symm n01), Mem.upd_same]
  · rw [Mem.upd_other _ _ (Ne.symm n12), Mem.upd_same]
  rintro n us m _ ⟨i, hi, rfl, rfl, hM⟩
  refine .env (by (try simp only [liE, lO, lU, snd, aN]); rfl) (.ite (fun h1 => ?_) (fun h1 => ?_)) <;> ((try simp only [evE, liE, lO, lU, snd] at h1); (try simp only [cmE] at h1))
  · have hi : i < a.length := by omega
    have hsucc := valV_succ a b i hi (by omega)
    have hlen : (valV a b i).length ≤ i := by
      unfold valV
      refine Nat.le_trans (List.length_filter_le _ _) ?_
      rw [List.length_take]; omega
    refine .elem1 (.int .i64 (labAt a i)) (intsL a) i a.length rfl rfl hi (fun g => hp.1.mono g.R) (intsL_at a i hi) (.env (by (try simp only [liE, lO, lU, snd, aN]); rfl) (.ite (fun h2 => ?_) (fun h2 => ?_))) <;> ((try simp only [evE, liE, lO, lU, snd] at h2); (try simp only [cmE] at h2))
    · rw [if_neg (by simp [okV]; omega)] at hsucc
      refine .again rfl ⟨a.length - (i + 1), by omega, i + 1, by omega, rfl, ?_, by rw [hsucc]; exact hM⟩
      (simp only [evE, liE, lO, lU, snd, Sh.uss, Sh.us, atAddr, map_add0, List.append_nil]); rw [add_i64 i (by omega), hsucc]
    refine .elem1 (.int .i64 (labAt b i)) (intsL b) i a.length rfl rfl hi (fun g => hp.2.mono g.R) (intsL_at b i (by omega)) (.env (by (try simp only [liE, lO, lU, snd, aN]); rfl) (.ite (fun h3 => ?_) (fun h3 => ?_))) <;> ((try simp only [evE, liE, lO, lU, snd] at h3); (try simp only [cmE] at h3))
    · rw [if_neg (by simp [okV]; omega)] at hsucc
      refine .again rfl ⟨a.length - (i + 1), by omega, i + 1, by omega, rfl, ?_, by rw [hsucc]; exact hM⟩
      (simp only [evE, liE, lO, lU, snd, Sh.uss, Sh.us, atAddr, map_add0, List.append_nil]); rw [add_i64 i (by omega), hsucc]
    rw [if_pos (by simp [okV]; omega)] at hsucc
    obtain ⟨⟨e0, t0, m0, C0⟩, ⟨e1, t1, m1, C1⟩, ⟨e2, t2, m2, C2⟩, hne⟩ := hM
    obtain ⟨f0, M0, F0⟩ := C0.map
    obtain ⟨f1, M1, F1⟩ := C1.map
    obtain ⟨f2, M2, F2⟩ := C2.map
    generalize hx : labAt a i = x at *
    generalize hy : labAt b i = y at *
    have g0 := CntM.get (isK := isK2) (es := e0) (clock := t0) F0 (x, y)
    have g1 := CntM.get (isK := IsKey (.int .i64)) (es := e1) (clock := t1) F1 x
    have g2 := CntM.get (isK := IsKey (.int .i64)) (es := e2) (clock := t2) F2 y
    have c0 := cnt_le (x, y) (valV a b i)
    have c1 := cnt_le x ((valV a b i).map (·.1))
    have c2 := cnt_le y ((valV a b i).map (·.2))
    rw [List.length_map] at c1 c2
    refine .elem1 (.int .i64 x) (intsL a) i a.length rfl rfl hi (fun g => hp.1.mono g.R) (by rw [intsL_at a i hi, hx]) (.env (by (try simp only [liE, lO, lU, snd, aN]); rfl) (.elem1 (.int .i64 y) (intsL b) i a.length rfl rfl hi (fun g => hp.2.mono g.R) (by rw [intsL_at b i (by omega), hy]) (.env (by (try simp only [liE, lO, lU, snd, aN]); rfl) ?_)))
    refine .lookupK kit2 (.int .i64 0) (enc2 (x, y)) e0 t0 f0 b0 [.i (cnt (x, y) (valV a b i) : Nat)] um2 z64 rfl (C0.isk _) m0 M0 (uOk_of rfl) (g0.trans rfl) (.env (by (try simp only [liE, lO, lU, snd, aN]); rfl) ?_)
    refine .entryK kit2 0 (cnt (x, y) (valV a b i) : Nat) (enc2 (x, y)) e0 t0 f0 b0 um2 z64 rfl (C0.isk _) m0 M0 g0 rfl (fun es' clock' j ee M' hj h0 => .env (by (try simp only [liE, lO, lU, snd, aN]); rfl) ?_)
    refine .storeK (.int .i64 ((cnt (x, y) (valV a b i) : Nat) + 1 : Int)) es' _ b0 clock' j ee hj rfl (by show Value.int .i64 (ar .add .i64 ((cnt (x, y) (valV a b i) : Nat) : Int) 1) = _; rw [addI (by omega) (by omega)]) (Mem.upd_same ..) M' (fun es2 M2' => ?_)
    rw [h0, updF_updF] at M2'
    have C0' := C0.add F0 (x, y) _ rfl M2'
    refine .elem1 (.int .i64 x) (intsL a) i a.length rfl rfl hi (fun g => hp.1.mono g.R) (by rw [intsL_at a i hi, hx]) (.env (by (try simp only [liE, lO, lU, snd, aN]); rfl) ?_)
    have m1' : ((m.upd b0 (.map es' clock')).upd b0 (.map es2 clock')) b1 = some (.map e1 t1) := by rw [Mem.upd_other _ _ (Ne.symm hne.1), Mem.upd_other _ _ (Ne.symm hne.1), m1]
    refine .lookupK kitI (.int .i64 0) (encI x) e1 t1 f1 b1 [.i (cnt x ((valV a b i).map (·.1)) : Nat)] umI z64 rfl (C1.isk _) m1' M1 (uOk_of rfl) (g1.trans rfl) (.env (by (try simp only [liE, lO, lU, snd, aN]); rfl) ?_)
    refine .updateK kitI (encI x) (.int .i64 ((cnt x ((valV a b i).map (·.1)) : Nat) + 1 : Int)) e1 f1 b1 t1 umI rfl (C1.isk _) (by show Value.int .i64 (ar .add .i64 ((cnt x ((valV a b i).map (·.1)) : Nat) : Int) 1) = _; rw [addI (by omega) (by omega)]) m1' M1 (fun es3 clock3 M3 => ?_)
    have C1' := C1.add F1 x _ rfl M3
    refine .elem1 (.int .i64 y) (intsL b) i a.length rfl rfl hi (fun g => hp.2.mono g.R) (by rw [intsL_at b i (by omega), hy]) (.env (by (try simp only [liE, lO, lU, snd, aN]); rfl) ?_)
    have m2' : (((m.upd b0 (.map es' clock')).upd b0 (.map es2 clock')).upd b1 (.map es3 clock3)) b2 = some (.map e2 t2) := by rw [Mem.upd_other _ _ (Ne.symm hne.2.2), Mem.upd_other _ _ (Ne.symm hne.2.1), Mem.upd_other _ _ (Ne.symm hne.2.1), m2]
    refine .lookupK kitI (.int .i64 0) (encI y) e2 t2 f2 b2 [.i (cnt y ((valV a b i).map (·.2)) : Nat)] umI z64 rfl (C2.isk _) m2' M2 (uOk_of rfl) (g2.trans rfl) (.env (by (try simp only [liE, lO, lU, snd, aN]); rfl) ?_)
    refine .updateK kitI (encI y) (.int .i64 ((cnt y ((valV a b i).map (·.2)) : Nat) + 1 : Int)) e2 f2 b2 t2 umI rfl (C2.isk _) (by show Value.int .i64 (ar .add .i64 ((cnt y ((valV a b i).map (·.2)) : Nat) : Int) 1) = _; rw [addI (by omega) (by omega)]) m2' M2 (fun es4 clock4 M4 => ?_)
    have C2' := C2.add F2 y _ rfl M4
    refine .again rfl ⟨a.length - (i + 1), by omega, i + 1, by omega, rfl, ?_, ?_⟩
    · (simp only [evE, liE, lO, lU, snd, Sh.uss, Sh.us, atAddr, map_add0, List.append_nil]); rw [add_i64 i (by omega), addI (by omega) (by omega), hsucc, List.length_append]; rfl
    · rw [hsucc]
      refine ⟨⟨_, _, ?_, C0'⟩, ⟨_, _, ?_, by rw [List.map_append]; exact C1'⟩, ⟨_, _, Mem.upd_same .., by rw [List.map_append]; exact C2'⟩, hne⟩
      · rw [Mem.upd_other _ _ hne.2.1, Mem.upd_other _ _ hne.1, Mem.upd_same]
      · rw [Mem.upd_other _ _ hne.2.2, Mem.upd_same]
  · have : i = a.length := by omega
    subst this
    exact .ret rfl ⟨b0, b1, b2, rfl, hM⟩
end Go.Proofs.YthabfpagilbplaaDoor
/- Chapter 19: judgements checked; fractions in lowest terms. -/
namespace Go.Proofs.YthabfpagilbplaaDoor
open Go Go.Sy Go.RowKit
theorem labAt_get {l : List Int} {i : Nat} (h : i < l.length) : labAt l i = l[i] := by unfold labAt; rw [List.getElem?_eq_getElem h]; rfl
theorem c_containsI (p : Option Addr) (cp : Nat) (t : List Int) (fv : Value) (hfv : fv.oneCell' = true) (f : Int → Bool) (hl : t.length < 2 ^ 63) (hf : ∀ x ∈ t, FnV Tryd.prog fv [.int .i64 x] (fun _ => True) fun v _ _ => v = .bool (f x)) :
    RetP Tryd.prog n_slices_ContainsFunc___int_int_ [slv p t.length cp, fv] (fun R => Cells R p (intsL t)) (.bool (t.any f)) := by
  have key : RetP Tryd.prog n_slices_IndexFunc___int_int_ [slv p t.length cp, fv] (fun R => Cells R p (intsL t)) (.int .i64 (match t.findIdx? f with | some i => (i : Int) | none => -1)) := by
    refine Fn.of S_slices_IndexFunc___int_int_ mx [.p p, .i t.length, .i cp, .v fv] (by simp [Sh.eats, Sh.eat, eatV, eatP, eatS, hfv]) rfl fun c hp => .chk (by ((try simp only [evE, liE, lO, lU, snd]); (try simp only [cmE])); omega) ?_
    refine .loop (fun n us _ => ∃ (e : Int) (j : Nat), us = [.i e, .i j] ∧ n + j = t.length ∧ ∀ i (hi : i < t.length), i < j → f t[i] = false) t.length ⟨0, 0, rfl, rfl, fun i hi h => by omega⟩ ?_
    rintro n _ m _ ⟨e, j, rfl, hn, hb⟩
    refine .env (by (try simp only [liE, lO, lU, snd, aN]); rfl) (.ite (fun h2 => ?_) (fun h2 => .ret rfl ?_)) <;> ((try simp only [evE, liE, lO, lU, snd] at h2); (try simp only [cmE] at h2))
    · have hj : j < t.length := by omega
      refine .elem1 (.int .i64 t[j]) (intsL t) j t.length rfl rfl hj (fun g => hp.mono g.R) (by rw [intsL_at t j hj, labAt_get hj]) (.env (by (try simp only [liE, lO, lU, snd, aN]); rfl) (.callvR (hf _ (List.getElem_mem hj)) (fun g => trivial) (fun m' _ => .env (by (try simp only [liE, lO, lU, snd, aN]); rfl) (.ite (fun h3 => .ret rfl ?_) (fun h3 => .again rfl ⟨n - 1, by omega, e, j + 1, ?_, by omega, ?_⟩)))))
      · replace h3 : f t[j] = true := h3
        rw [findIdx?_at hj h3 hb]; rfl
      · (simp only [evE, liE, lO, lU, snd, Sh.uss, Sh.us, atAddr, map_add0, List.append_nil]); rw [add_i64 j (by omega)]
      · replace h3 : f t[j] = false := h3
        intro i hi hij
        rcases Nat.lt_or_ge i j with h | h
        · exact hb i hi h
        · have : i = j := by omega
          subst this; exact h3
    · rw [findIdx?_none fun i hi => hb i hi (by omega)]; rfl
  refine Fn.of S_slices_ContainsFunc___int_int_ mx [.p p, .i t.length, .i cp, .v fv] (by simp [Sh.eats, Sh.eat, eatV, eatP, eatS, hfv]) rfl fun c hp => .callV key (fun g => hp.mono g.R) (.env (by (try simp only [liE, lO, lU, snd, aN]); rfl) (.ret rfl ?_))
  cases h : t.findIdx? f with
  | none =>
    rw [List.findIdx?_eq_none_iff] at h
    have : t.any f = false := List.any_eq_false.2 fun x hx => by simp [h x hx]
    rw [this]; rfl
  | some i =>
    obtain ⟨hi, h1, _⟩ := List.findIdx?_eq_some_iff_getElem.1 h
    rw [any_true hi h1]
    show Value.bool (cm .geq (i : Int) 0) = _
    simp [cm]
def lowB (k : Int) : Bool := decide (k < -1)
def wrongW (a b : List Int) : Int := if a.length > 256 ∨ b.length > 256 then 12 else if a.length ≠ b.length ∨ a.any lowB = true ∨ b.any lowB = true then 2 else 0
theorem c_low (x : Int) : FnM Tryd.prog n_cognates_wrong_1 [.int .i64 x] (fun _ => True) fun v _ _ => v = .bool (lowB x) :=
  FnM.of S_cognates_wrong_1 mx [.i x] rfl rfl fun c _ => .ret rfl rfl
theorem c_wrong (p q : Option Addr) (cp cq : Nat) (a b : List Int) (ha : a.length < 2 ^ 63) (hb : b.length < 2 ^ 63) : RetP Tryd.prog n_cognates_wrong [slv p a.length cp, slv q b.length cq] (fun R => Cells R p (intsL a) ∧ Cells R q (intsL b)) (.int .i64 (wrongW a b)) := by
  have k1 := c_containsI p cp a (.func (.func n_cognates_wrong_1) #[] #[]) rfl lowB ha fun x _ => .of0 (by kernel_rfl) (c_low x)
  have k2 := c_containsI q cq b (.func (.func n_cognates_wrong_1) #[] #[]) rfl lowB hb fun x _ => .of0 (by kernel_rfl) (c_low x)
  refine Fn.of S_cognates_wrong mx [.p p, .i a.length, .i cp, .p q, .i b.length, .i cq] rfl rfl fun c hp => .chk (by ((try simp only [evE, liE, lO, lU, snd]); (try simp only [cmE])); omega) (.ite (fun h1 => .ret rfl ?_) (fun h1 => .chk (by ((try simp only [evE, liE, lO, lU, snd]); (try simp only [cmE])); omega) (.ite (fun h2 => .ret rfl ?_) (fun h2 => .chk (by ((try simp only [evE, liE, lO, lU, snd]); (try simp only [cmE])); omega) (.chk (by ((try simp only [evE, liE, lO, lU, snd]); (try simp only [cmE])); omega) (.ite (fun h3 => .ret rfl ?_) (fun h3 => .callV k1 (fun g => hp.1.mono g.R) (.env (by (try simp only [liE, lO, lU, snd, aN]); rfl) (.ite (fun h4 => .ret rfl ?_) (fun h4 => .callV k2 (fun g => hp.2.mono g.R) (.env (by (try simp only [liE, lO, lU, snd, aN]); rfl) (.ite (fun h5 => .ret rfl ?_) (fun h5 => .ret rfl ?_))))))))))))) <;> ((try simp only [evE, liE, lO, lU, snd] at h1 ); (try simp only [cmE] at h1 ))<;> unfold wrongW
  · rw [if_pos (by omega)]; rfl
  · ((try simp only [evE, liE, lO, lU, snd] at h2); (try simp only [cmE] at h2)); rw [if_pos (by omega)]; rfl
  · ((try simp only [evE, liE, lO, lU, snd] at h2); (try simp only [cmE] at h2)); ((try simp only [evE, liE, lO, lU, snd] at h3); (try simp only [cmE] at h3)); rw [if_neg (by omega), if_pos (.inl (by omega))]; rfl
  · ((try simp only [evE, liE, lO, lU, snd] at h2); (try simp only [cmE] at h2)); ((try simp only [evE, liE, lO, lU, snd] at h3); (try simp only [cmE] at h3)); rw [if_neg (by omega), if_pos (.inr (.inl h4))]; rfl
  · ((try simp only [evE, liE, lO, lU, snd] at h2); (try simp only [cmE] at h2)); ((try simp only [evE, liE, lO, lU, snd] at h3); (try simp only [cmE] at h3)); rw [if_neg (by omega), if_pos (.inr (.inr h5))]; rfl
  · ((try simp only [evE, liE, lO, lU, snd] at h2); (try simp only [cmE] at h2)); ((try simp only [evE, liE, lO, lU, snd] at h3); (try simp only [cmE] at h3))
    replace h4 : a.any lowB = false := h4
    replace h5 : b.any lowB = false := h5
    rw [if_neg (by omega), if_neg (fun h => h.elim (fun h => by omega) fun h => h.elim (fun h => by rw [h4] at h; cases h) fun h => by rw [h5] at h; cases h)]; rfl
theorem quo_ok {n x : Int} (hn : 0 ≤ n ∧ n ≤ 9223372036854775807) (hp : 0 < x) : ar .quo .i64 n x = n.tdiv x := by
  have a1 := Int.tdiv_nonneg hn.1 (Int.le_of_lt hp)
  have a2 := Int.tdiv_le_self (b := x) hn.1
  exact wrap_i64 (by omega) (by omega)
theorem c_lowest19 (n d : Int) (hn : 0 ≤ n ∧ n ≤ 9223372036854775807) (hd : 0 < d ∧ d ≤ 9223372036854775807) : Ret Tryd.prog n_cognates_lowest [.int .i64 n, .int .i64 d] (.agg #[.int .i64 (lowest n d).1, .int .i64 (lowest n d).2]) := by
  refine Fn.of S_cognates_lowest mx [.i n, .i d] rfl rfl fun c _ => .alloc fun _ => ?_
  refine .loop (fun k us _ => ∃ x y : Int, us = [.i x, .i y] ∧ 0 ≤ x ∧ 0 ≤ y ∧ y = (k : Int) ∧ gcdI x y = gcdI n d) d.toNat ⟨n, d, rfl, hn.1, by omega, by omega, rfl⟩ ?_
  rintro k _ m _ ⟨x, y, rfl, hx, hy, hyn, hgc⟩
  refine .ite (fun h3 => .chk h3 (.again rfl ⟨(x.tmod y).toNat, ?_, y, x.tmod y, ?_, by omega, ?_, ?_, ?_⟩)) (fun h3 => ?_) <;> ((try simp only [evE, liE, lO, lU, snd] at h3); (try simp only [cmE] at h3))
  · have := Int.tmod_lt_of_pos x (by omega : 0 < y)
    have := Int.tmod_nonneg y hx
    omega
  · (simp only [evE, liE, lO, lU, snd, Sh.uss, Sh.us, atAddr, map_add0, List.append_nil]); rfl
  · exact Int.tmod_nonneg y hx
  · have := Int.tmod_nonneg y hx
    omega
  · rw [gcdI_step hx (by omega), hgc]
  · have hy0 : y = 0 := by omega
    subst hy0
    rw [gcdI_zero hx] at hgc
    have hp := gcd_pos (n := n) (d := d) (by omega)
    rw [← hgc] at hp
    refine .chk (by ((try simp only [evE, liE, lO, lU, snd]); (try simp only [cmE])); omega) (.chk (by ((try simp only [evE, liE, lO, lU, snd]); (try simp only [cmE])); omega) (.ret rfl ?_))
    show Value.agg #[.int .i64 (ar .quo .i64 n x), .int .i64 (ar .quo .i64 d x)] = _
    rw [quo_ok hn hp, quo_ok ⟨by omega, hd.2⟩ hp]
    unfold lowest
    rw [hgc]
def shareW (n d : Int) : Int × Int := if d = 0 then (1, 1) else lowest n d
def pr2 (n : Nat) : Nat := n * (n - 1) / 2
theorem c_cpairs (n : Nat) (h : n ≤ 65536) : Ret Tryd.prog n_cognates_pairs [.int .i64 n] (.int .i64 (pr2 n : Nat)) := by
  refine Fn.of S_cognates_pairs mx [.i n] rfl rfl fun c _ => .ret rfl ?_
  show Value.int .i64 (ar .quo .i64 (ar .mul .i64 (n : Int) (ar .sub .i64 (n : Int) 1)) 2) = _
  rw [show ar .sub .i64 (n : Int) 1 = (n : Int) - 1 from wrap_i64 (by omega) (by omega)]
  have hb : n * (n - 1) ≤ 65536 * 65536 := Nat.mul_le_mul h (by omega)
  have hm : (n : Int) * ((n : Int) - 1) = ((n * (n - 1) : Nat) : Int) := by
    cases n with
    | zero => rfl
    | succ n => rw [Nat.succ_sub_one]; push_cast; rw [Int.add_sub_cancel]
  rw [mulI (by rw [hm]; omega) (by rw [hm]; omega), hm, quo_ok (by omega) (by omega)]
  unfold pr2
  rw [Int.tdiv_eq_ediv_of_nonneg (by omega)]; norm_cast
end Go.Proofs.YthabfpagilbplaaDoor
/- Chapter 19: sums over a map that counts. -/
namespace Go.Sy
open Go Go.RowKit Go.MapKept Go.ChangeMaps
def prC {α : Type} [DecidableEq α] : List α → Nat
  | [] => 0
  | x :: l => cnt x l + prC l
theorem cnt_cons {α : Type} [DecidableEq α] (x y : α) (l : List α) : cnt x (y :: l) = cnt x l + if x = y then 1 else 0 := by
  unfold cnt
  rw [List.count_cons]
  by_cases h : x = y
  · subst h; simp
  · rw [if_neg h]; simp [Ne.symm h]
theorem prC_le {α : Type} [DecidableEq α] (l : List α) : prC l ≤ l.length * l.length := by
  induction l with
  | nil => exact Nat.le_refl _
  | cons x l ih =>
    have := cnt_le x l
    rw [prC, List.length_cons, Nat.succ_mul_succ]
    have : l.length * l.length + l.length ≤ l.length * l.length + l.length + l.length + 1 := by omega
    omega
def sumN {α : Type} (g : α → Nat) (l : List α) : Nat := (l.map g).sum
theorem sumN_cons {α : Type} (g : α → Nat) (x : α) (l : List α) : sumN g (x :: l) = g x + sumN g l := by simp [sumN]
theorem sumN_zero {α : Type} {g : α → Nat} {l : List α} (h : ∀ x ∈ l, g x = 0) : sumN g l = 0 := by
  induction l with
  | nil => rfl
  | cons x l ih => rw [sumN_cons, h x (.head _), ih fun y hy => h y (.tail _ hy)]
theorem sumN_add {α : Type} (g h : α → Nat) (l : List α) : sumN (fun x => g x + h x) l = sumN g l + sumN h l := by
  induction l with
  | nil => rfl
  | cons x l ih => simp only [sumN_cons, ih]; omega
theorem sumN_congr {α : Type} {g h : α → Nat} {l : List α} (e : ∀ x ∈ l, g x = h x) : sumN g l = sumN h l := by
  unfold sumN; rw [List.map_congr_left e]
theorem sumN_one {α : Type} [DecidableEq α] (x : α) (v : Nat) {l : List α} (hn : l.Nodup) (hx : x ∈ l) : sumN (fun y => if y = x then v else 0) l = v := by
  induction l with
  | nil => simp at hx
  | cons y l ih =>
    rw [sumN_cons]
    have hn' := List.nodup_cons.1 hn
    by_cases h : y = x
    · subst h
      have : sumN (fun z => if z = y then v else 0) l = 0 := sumN_zero fun z hz => if_neg fun (e : z = y) => hn'.1 (e ▸ hz)
      rw [if_pos rfl, this, Nat.add_zero]
    · rw [if_neg h, ih hn'.2 ((List.mem_cons.1 hx).resolve_left (Ne.symm h)), Nat.zero_add]
theorem CntM.keys {α : Type} [DecidableEq α] {isK : Value → Prop} {enc : α → Value} {es : Array MapEntry} {clock : Nat} {ks : List α} (C : CntM isK enc es clock ks) : ∃ D : List α, D.Nodup ∧ (∀ x ∈ ks, x ∈ D) ∧ es.toList.map (fun e => (e.key, e.val)) = D.map (fun x => (enc x, Value.int .i64 (cnt x ks : Nat))) := by
  obtain ⟨f, M, F⟩ := C.map
  have key : ∀ l : List MapEntry, (∀ e ∈ l, isK e.key ∧ f e.key = some e.val) → ∃ D : List α, l.map (fun e => (e.key, e.val)) = D.map (fun x => (enc x, Value.int .i64 (cnt x ks : Nat))) := fun l => by
    induction l with
    | nil => intro _; exact ⟨[], rfl⟩
    | cons e l ih =>
      intro h
      obtain ⟨D, hD⟩ := ih fun e he => h e (.tail _ he)
      obtain ⟨h1, h2⟩ := h e (.head _)
      obtain ⟨x, hx⟩ := C.key _ h1
      rw [hx, F] at h2
      split at h2
      · exact ⟨x :: D, by rw [List.map_cons, List.map_cons, hD, hx, ← Option.some.inj h2]⟩
      · cases h2
  obtain ⟨D, hD⟩ := key es.toList M.at'
  have hk : es.toList.map (·.key) = D.map enc := by
    have := congrArg (List.map Prod.fst) hD
    simpa [List.map_map, Function.comp_def] using this
  refine ⟨D, ?_, fun x hx => ?_, hD⟩
  · have := M.nd
    rw [hk] at this
    exact List.Pairwise.of_map enc (fun a b h e => h (congrArg enc e)) this
  · have h : f (enc x) = some (.int .i64 (cnt x ks : Nat)) := by rw [F, if_pos hx]
    obtain ⟨e, he, hek⟩ := M.has _ _ h
    have : enc x ∈ D.map enc := by rw [← hk, ← hek]; exact List.mem_map_of_mem he
    obtain ⟨y, hy, e⟩ := List.mem_map.1 this
    exact C.inj _ _ e ▸ hy
def vN : Value → Nat
  | .int _ n => n.toNat
  | _ => 0
theorem CntM.sum {α : Type} [DecidableEq α] {isK : Value → Prop} {enc : α → Value} {es : Array MapEntry} {clock : Nat} {ks : List α} (C : CntM isK enc es clock ks) (g : Value → Nat → Nat) : ∃ D : List α, D.Nodup ∧ (∀ x ∈ ks, x ∈ D) ∧ sumN (fun e : MapEntry => g e.key (vN e.val)) es.toList = sumN (fun x => g (enc x) (cnt x ks)) D := by
  obtain ⟨D, h1, h2, h3⟩ := C.keys
  refine ⟨D, h1, h2, ?_⟩
  have := congrArg (List.map fun p : Value × Value => g p.1 (vN p.2)) h3
  rw [List.map_map, List.map_map] at this
  exact congrArg List.sum this
theorem filt_step (p : MapEntry → Bool) (e : MapEntry) (g : MapEntry → Nat) : ∀ l : List MapEntry, (l.map (·.born)).Nodup → e ∈ l.filter p → sumN g (l.filter p) = g e + sumN g (l.filter fun x => p x && !(x.born == e.born))
  | [], _, he => by simp at he
  | x :: l, hn, he => by
    have hn' := List.nodup_cons.1 (by simpa using hn : (x.born :: l.map (·.born)).Nodup)
    by_cases hx : x = e
    · subst hx
      have hpx : p x = true := (List.mem_filter.1 he).2
      have hrest : l.filter (fun y => p y && !(y.born == x.born)) = l.filter p := List.filter_congr fun y hy => by
        have : (y.born == x.born) = false := by
          cases h : y.born == x.born with
          | false => rfl
          | true => exact absurd (List.mem_map.2 ⟨y, hy, by simpa using h⟩) hn'.1
        rw [this]; simp
      rw [List.filter_cons, if_pos hpx, sumN_cons, List.filter_cons, if_neg (by simp), hrest]
    · have he' : e ∈ l.filter p := by
        rw [List.mem_filter] at he ⊢
        exact ⟨(List.mem_cons.1 he.1).resolve_left (Ne.symm hx), he.2⟩
      have hb : (x.born == e.born) = false := by
        cases h : x.born == e.born with
        | false => rfl
        | true => exact absurd (List.mem_map.2 ⟨e, (List.mem_filter.1 he').1, by simpa using (beq_iff_eq.1 h).symm⟩) hn'.1
      have := filt_step p e g l hn'.2 he'
      rw [List.filter_cons, List.filter_cons, hb]
      cases hpx : p x
      · rw [if_neg (by simp), if_neg (by simp)]; exact this
      · rw [if_pos rfl, if_pos (by rfl), sumN_cons, sumN_cons, this]; omega
theorem left_step {es : Array MapEntry} (hn : (es.toList.map (·.born)).Nodup) {seen : Array Nat} {e : MapEntry} (he : e ∈ (leftOf es seen).toList) (g : MapEntry → Nat) : sumN g (leftOf es seen).toList = g e + sumN g (leftOf es (seen.push e.born)).toList := by
  unfold leftOf at *
  rw [Array.toList_filter] at he ⊢
  rw [Array.toList_filter]
  have hp : ∀ x : MapEntry, (!(seen.push e.born).contains x.born) = ((!seen.contains x.born) && !(x.born == e.born)) := fun x => by
    rw [Array.contains_push]
    cases seen.contains x.born <;> cases (x.born == e.born) <;> rfl
  rw [List.filter_congr (p := fun x => !(seen.push e.born).contains x.born) fun x _ => hp x]
  exact filt_step _ e g _ hn he
theorem leftOf_nil (es : Array MapEntry) : (leftOf es #[]).toList = es.toList := by
  unfold leftOf; rw [Array.toList_filter]; simp
theorem left_mem {es : Array MapEntry} {seen : Array Nat} {e : MapEntry} (he : e ∈ (leftOf es seen).toList) : e ∈ es.toList := by
  unfold leftOf at he; rw [Array.toList_filter] at he; exact (List.mem_filter.1 he).1
end Go.Sy
namespace Go.Proofs.YthabfpagilbplaaDoor
open Go Go.Sy Go.RowKit Go.MapKept Go.ChangeMaps
theorem pr2_succ (n : Nat) : pr2 (n + 1) = pr2 n + n := by
  unfold pr2
  rw [Nat.succ_sub_one]
  cases n with
  | zero => rfl
  | succ n =>
    rw [Nat.succ_sub_one]
    have : (n + 1 + 1) * (n + 1) = (n + 1) * n + (n + 1) * 2 := by rw [Nat.mul_comm, ← Nat.mul_add]
    rw [this, Nat.add_mul_div_right _ _ (by decide)]
theorem sum_pr2 {α : Type} [DecidableEq α] {D : List α} (hn : D.Nodup) : ∀ ks : List α, (∀ x ∈ ks, x ∈ D) → sumN (fun x => pr2 (cnt x ks)) D = prC ks
  | [], _ => sumN_zero fun x _ => by simp [cnt, pr2]
  | x :: l, h => by
    have h1 := sum_pr2 hn l fun y hy => h y (.tail _ hy)
    have : sumN (fun y => pr2 (cnt y (x :: l))) D = sumN (fun y => pr2 (cnt y l) + if y = x then cnt x l else 0) D := sumN_congr fun y _ => by
      rw [cnt_cons]
      by_cases e : y = x
      · subst e; rw [if_pos rfl, if_pos rfl, pr2_succ]
      · rw [if_neg e, if_neg e]; rfl
    rw [this, sumN_add, h1, sumN_one x _ hn (h x (.head _)), prC]; omega
theorem CntM.pairs {α : Type} [DecidableEq α] {isK : Value → Prop} {enc : α → Value} {es : Array MapEntry} {clock : Nat} {ks : List α} (C : CntM isK enc es clock ks) : sumN (fun e : MapEntry => pr2 (vN e.val)) es.toList = prC ks := by
  obtain ⟨D, h1, h2, h3⟩ := C.sum fun _ n => pr2 n
  rw [h3, sum_pr2 h1 ks h2]
end Go.Proofs.YthabfpagilbplaaDoor
/- Chapter 19: a loop that adds up the pairs of a map that counts; Compare. -/
namespace Go.Proofs.YthabfpagilbplaaDoor
open Go Go.Sy Go.RowKit Go.MapKept Go.ChangeMaps
structure KeyU {α : Type} (enc : α → Value) (sh : Sh) (wd : Nat) : Prop where
  ok : ∀ x n, UsOk [sh, .int .i64] (lU (enc x) ++ [.i n])
  den : ∀ (L : List Nat) (ρ : Env) x n, SV.dens L (ρ ++ (lU (enc x) ++ [.i n])) (Sh.freshs [sh, .int .i64] ρ.length).1 = [enc x, .int .i64 n]
  len : ∀ x, (lU (enc x)).length = wd
theorem keyI : KeyU encI (.int .i64) 1 where
  ok x n := usOk_of rfl
  den L ρ x n := by
    have e1 := getElem_env ρ [.i x, .i n] 0
    have e2 := getElem_env ρ [.i x, .i n] 1
    rw [Nat.add_zero] at e1
    show SV.dens L (ρ ++ [.i x, .i n]) _ = _
    simp only [Sh.freshs, Sh.fresh, SV.dens, SV.den, IT.eval, Env.int]
    rw [e1, e2]; rfl
  len _ := rfl
theorem key2 : KeyU enc2 (.agg [.int .i64, .int .i64]) 2 where
  ok x n := usOk_of rfl
  den L ρ x n := by
    have e1 := getElem_env ρ [.i x.1, .i x.2, .i n] 0
    have e2 := getElem_env ρ [.i x.1, .i x.2, .i n] 1
    have e3 := getElem_env ρ [.i x.1, .i x.2, .i n] 2
    rw [Nat.add_zero] at e1
    show SV.dens L (ρ ++ [.i x.1, .i x.2, .i n]) _ = _
    simp only [Sh.freshs, Sh.fresh, SV.dens, SV.den, IT.eval, Env.int]
    rw [e1, e2]
    rw [show ρ.length + 1 + 1 = ρ.length + 2 from rfl, e3]; rfl
  len _ := rfl
theorem CntM.entry {α : Type} [DecidableEq α] {isK : Value → Prop} {enc : α → Value} {es : Array MapEntry} {clock : Nat} {ks : List α} (C : CntM isK enc es clock ks) {e : MapEntry} (he : e ∈ es.toList) : ∃ x, x ∈ ks ∧ e.key = enc x ∧ e.val = .int .i64 (cnt x ks : Nat) := by
  obtain ⟨f, M, F⟩ := C.map
  obtain ⟨h1, h2⟩ := M.at' e he
  obtain ⟨x, hx⟩ := C.key _ h1
  rw [hx, F] at h2
  by_cases h : x ∈ ks
  · rw [if_pos h] at h2; exact ⟨x, h, hx, (Option.some.inj h2).symm⟩
  · rw [if_neg h] at h2; cases h2
theorem take_last {β : Type} (l : List β) (n : Nat) (x : β) (h : (l.take n).length = n) : (l.take n ++ [x])[n]? = some x := by
  rw [List.getElem?_append_right (by omega), h, Nat.sub_self]; rfl
section
variable {c : Cx} {L : List Nat} {ρ : Env} {m : Mem} {R : Value → HW → Prop} {Dn : Nat → List U → HW → Prop} {A : List (List U → HW → Prop)}
theorem sumMap {α : Type} [DecidableEq α] {isK : Value → Prop} {enc : α → Value} {sh : Sh} {wd : Nat} (KU : KeyU enc sh wd) {t kt et ty ty2 ty3 : TypeId} {xo xo2 xo3 : Operand} {ms : SV} {k : Tree} {bl1 bl2 bl3 bl4 bl5 bl6 head : List Blk} {lvl nb vi vn va vr : Nat}
    {es : Array MapEntry} {clock b : Nat} {ks : List α} (ht : Tryd.prog.underlying t = some (.map kt et)) (hm : m b = some (.map es clock)) (C : CntM isK enc es clock ks) (h256 : ks.length ≤ 256) (hms : ms.den L ρ = .map (some b))
    (hvi : vi = ρ.length) (hva : va = ρ.length + 1) (hvn : vn = ρ.length + 2 + (wd + 1) + wd) (hvr : vr = vn + 1) (hA : (A.take lvl).length = lvl) (hs1 : scBlks ρ.length bl1 = true) (hs3 : scBlks (ρ.length + 2) bl3 = true) (hs4 : scBlks (ρ.length + 2 + (wd + 1)) bl4 = true) (hs5 : scBlks (ρ.length + 2 + (wd + 1) + (wd + 1)) bl5 = true)
    (hk : ∀ X r m', m r = none → (∀ b', b' ≠ r → m' b' = m b') → DenM Tryd.prog R Dn k L (ρ ++ [.p (some ⟨r, 0, none⟩)] ++ [.i (prC ks : Nat)]) c m' (A.take lvl ++ [X])) :
    DenM Tryd.prog R Dn (.ext false ⟨.range t xo, ty, [ms]⟩ .ptr bl1 (.loop lvl [.int .i64] [.int .i64 (.lit 0)] bl2 head (.nxt false ⟨.next xo2 false, ty2, [.ptr vi (.lit 0)]⟩ [sh, .int .i64] bl3 (.ext false ⟨.entry xo3, ty3, [.ptr vi (.lit 0)]⟩ (.tup [sh, .int .i64]) bl4 (.call false n_cognates_pairs [.int .i64 (.var vn)] (.int .i64) bl5 (.again lvl nb [.int .i64] [.int .i64 (.bin .add .i64 (.var va) (.var vr))] bl6))) k))) L ρ c m A := by
  obtain ⟨f, M, F⟩ := C.map
  refine .mkIter es b clock ht hm (fun r hr hrL => ?_) hms hs1
  have hbr : b ≠ r := fun e => by rw [e, hr] at hm; cases hm
  have htot := CntM.pairs C
  have hprc : prC ks ≤ 256 * 256 := Nat.le_trans (prC_le ks) (Nat.mul_le_mul h256 h256)
  refine .loop (fun n us m' => ∃ (seen : Array Nat) (acc : Nat), n = (leftOf es seen).toList.length ∧ us = [.i acc] ∧ acc + sumN (fun e : MapEntry => pr2 (vN e.val)) (leftOf es seen).toList = prC ks ∧ m' r = some (.mapIter (some b) clock seen clock) ∧ ∀ b', b' ≠ r → m' b' = m b') es.toList.length ⟨#[], 0, by rw [leftOf_nil], rfl, by rw [leftOf_nil, htot, Nat.zero_add], Mem.upd_same .., fun b' h => Mem.upd_other _ _ h⟩ ?_
  rintro n us m' _ ⟨seen, acc, rfl, rfl, hacc, hr', hoth⟩
  have hm' : m' b = some (.map es clock) := (hoth b hbr).trans hm
  have hit : ∀ us : List U, (SV.ptr vi (.lit 0)).den L (ρ ++ [U.p (some ⟨r, 0, none⟩)] ++ us) = .pointer (some ⟨r, 0, none⟩) := fun us => by
    subst hvi
    rw [List.append_assoc]
    have e1 := getElem_env ρ ([U.p (some ⟨r, 0, none⟩)] ++ us) 0
    rw [Nat.add_zero] at e1
    simp only [SV.den, atAddr, Env.ptr, IT.eval]
    rw [e1]; rfl
  refine .next es b r clock seen (fun e => lU e.key ++ lU e.val) hr' hm' M (fun e he => ?_) (fun e he => ?_) (fun h0 => ?_) (by simpa using hs3) (hit _)
  · obtain ⟨x, _, h1, h2⟩ := CntM.entry C he
    rw [h1, h2]
    exact ⟨KU.ok x _, KU.den _ _ x _⟩
  · have hes := left_mem he
    obtain ⟨x, hx, h1, h2⟩ := CntM.entry C hes
    have hst := left_step M.bn he (fun e : MapEntry => pr2 (vN e.val))
    have hst1 := left_step M.bn he (fun _ => 1)
    have hv : vN e.val = cnt x ks := by rw [h2]; rfl
    rw [hv] at hst
    have hlen := KU.len x
    have hcn := cnt_le x ks
    have hm2 : (m'.upd r (.mapIter (some b) clock (seen.push e.born) clock)) b = some (.map es clock) := by rw [Mem.upd_other _ _ hbr]; exact hm'
    have k1 := KU.ok x (cnt x ks : Nat)
    have k2 := fun (L : List Nat) (ρ : Env) => KU.den L ρ x (cnt x ks : Nat)
    rw [h1, h2, show lU (.int .i64 (cnt x ks : Nat)) = [U.i (cnt x ks : Nat)] from rfl]
    have hent : Value.tuple #[e.key, e.val] = .tuple [enc x, Value.int .i64 (cnt x ks : Nat)].toArray := by rw [h1, h2]
    generalize lU (enc x) = kl at *
    have hn1 : (ρ ++ [U.p (some ⟨r, 0, none⟩)] ++ [U.i acc] ++ (kl ++ [U.i (cnt x ks : Nat)]) ++ (kl ++ [U.i (cnt x ks : Nat)])) = (ρ ++ [U.p (some ⟨r, 0, none⟩)] ++ [U.i acc] ++ (kl ++ [U.i (cnt x ks : Nat)]) ++ kl) ++ [U.i (cnt x ks : Nat)] := by simp only [List.append_assoc]
    have hl1 : (ρ ++ [U.p (some ⟨r, 0, none⟩)] ++ [U.i acc] ++ (kl ++ [U.i (cnt x ks : Nat)]) ++ kl).length = vn := by
      simp only [List.length_append, List.length_cons, List.length_nil, hlen]; omega
    have hvnE : (ρ ++ [U.p (some ⟨r, 0, none⟩)] ++ [U.i acc] ++ (kl ++ [U.i (cnt x ks : Nat)]) ++ (kl ++ [U.i (cnt x ks : Nat)]))[vn]? = some (U.i (cnt x ks : Nat)) := by
      rw [hn1, ← hl1]
      have := getElem_env (ρ ++ [U.p (some ⟨r, 0, none⟩)] ++ [U.i acc] ++ (kl ++ [U.i (cnt x ks : Nat)]) ++ kl) [U.i (cnt x ks : Nat)] 0
      rw [Nat.add_zero] at this
      exact this
    have hvaE : ∀ us : List U, (ρ ++ [U.p (some ⟨r, 0, none⟩)] ++ [U.i acc] ++ (kl ++ [U.i (cnt x ks : Nat)]) ++ (kl ++ [U.i (cnt x ks : Nat)]) ++ us)[va]? = some (U.i acc) := fun us => by
      rw [hva]
      have := getElem_env ρ ([U.p (some ⟨r, 0, none⟩)] ++ [U.i acc] ++ (kl ++ [U.i (cnt x ks : Nat)]) ++ (kl ++ [U.i (cnt x ks : Nat)]) ++ us) 1
      simp only [List.append_assoc] at this ⊢
      rw [this]; rfl
    have hlE : (ρ ++ [U.p (some ⟨r, 0, none⟩)] ++ [U.i acc] ++ (kl ++ [U.i (cnt x ks : Nat)]) ++ (kl ++ [U.i (cnt x ks : Nat)])).length = vr := by
      rw [hn1, List.length_append, hl1, hvr]; rfl
    have hsm : pr2 (cnt x ks) ≤ 256 * 256 ∧ acc + pr2 (cnt x ks) ≤ 256 * 256 := by omega
    refine .entryIt es b r clock seen e (kl ++ [U.i (cnt x ks : Nat)]) he (Mem.upd_same ..) hm2 M (by exact k1) ?_ ?_ ?_ ?_
    · rw [hent, ← k2 L (ρ ++ [U.p (some ⟨r, 0, none⟩)] ++ [U.i acc] ++ (kl ++ [U.i (cnt x ks : Nat)]))]; rfl
    · generalize hEE : ρ ++ [U.p (some ⟨r, 0, none⟩)] ++ [U.i acc] ++ (kl ++ [U.i (cnt x ks : Nat)]) ++ (kl ++ [U.i (cnt x ks : Nat)]) = E at *
      have hres : (E ++ [U.i (pr2 (cnt x ks) : Nat)])[E.length]? = some (U.i (pr2 (cnt x ks) : Nat)) := by
        have := getElem_env E [U.i (pr2 (cnt x ks) : Nat)] 0
        rwa [Nat.add_zero] at this
      refine .callV (c_cpairs (cnt x ks) (by omega)) (fun _ => trivial) (.again (take_last A lvl _ hA) ⟨_, ?_, seen.push e.born, acc + pr2 (cnt x ks), rfl, ?_, ?_, Mem.upd_same .., fun b' h => (Mem.upd_other _ _ h).trans (hoth b' h)⟩) ?_ rfl ?_ ?_
      · have q1 : ∀ l : List MapEntry, sumN (fun _ => 1) l = l.length := fun l => by
          induction l with
          | nil => rfl
          | cons x l ih => rw [sumN_cons, ih, List.length_cons]; omega
        rw [q1, q1] at hst1; omega
      · show [U.i (ar .add .i64 (Env.int (E ++ [U.i (pr2 (cnt x ks) : Nat)]) va) (Env.int (E ++ [U.i (pr2 (cnt x ks) : Nat)]) vr))] = _
        rw [show Env.int (E ++ [U.i (pr2 (cnt x ks) : Nat)]) va = (acc : Int) by unfold Env.int; simp only [hvaE], show Env.int (E ++ [U.i (pr2 (cnt x ks) : Nat)]) vr = (pr2 (cnt x ks) : Int) by unfold Env.int; simp only [← hlE, hres], addI (by omega) (by omega), Int.natCast_add]
      · omega
      · show [Value.int .i64 (Env.int E vn)] = _
        unfold Env.int; simp only [hvnE]
      · simp only [Sh.fresh, SV.den, IT.eval, Env.int]
        show Value.int .i64 (match (E ++ [U.i (pr2 (cnt x ks) : Nat)])[E.length]? with | some (.i n) => n | _ => 0) = _
        rw [hres]
      · rw [hlE, hvr, hvn]; rw [show ρ.length + 2 + (wd + 1) + wd + 1 = ρ.length + 2 + (wd + 1) + (wd + 1) by omega]; exact hs5
    · rw [show (ρ ++ [U.p (some ⟨r, 0, none⟩)] ++ [U.i acc] ++ (kl ++ [U.i (cnt x ks : Nat)])).length = ρ.length + 2 + (wd + 1) by simp only [List.length_append, List.length_cons, List.length_nil, hlen]]; exact hs4
    · have := hit ([U.i acc] ++ (kl ++ [U.i (cnt x ks : Nat)]))
      simpa only [List.append_assoc] using this
  · have hnil : (leftOf es seen).toList = [] := List.length_eq_zero_iff.1 (by simpa using h0)
    rw [hnil] at hacc
    have : acc = prC ks := by simpa [sumN] using hacc
    subst this
    exact hk _ r m' hr hoth
end
end Go.Proofs.YthabfpagilbplaaDoor
/- Chapter 19: Compare. -/
namespace Go.Proofs.YthabfpagilbplaaDoor
open Go Go.Sy Go.RowKit Go.MapKept Go.ChangeMaps
theorem CtM.keep {m m' : Mem} {b0 b1 b2 r : Nat} {ps : List (Int × Int)} (h : CtM m b0 b1 b2 ps) (hr : m r = none) (hk : ∀ b', b' ≠ r → m' b' = m b') : CtM m' b0 b1 b2 ps := by
  obtain ⟨⟨e0, t0, m0, C0⟩, ⟨e1, t1, m1, C1⟩, ⟨e2, t2, m2, C2⟩, hne⟩ := h
  have ne : ∀ {b : Nat} {o : Obj}, m b = some o → b ≠ r := fun h e => by rw [e, hr] at h; cases h
  exact ⟨⟨e0, t0, (hk _ (ne m0)).trans m0, C0⟩, ⟨e1, t1, (hk _ (ne m1)).trans m1, C1⟩, ⟨e2, t2, (hk _ (ne m2)).trans m2, C2⟩, hne⟩
def compareE (a b : List Int) : ((Int × Int) × (Int × Int)) × Int := if wrongW a b ≠ 0 then (((0, 0), (0, 0)), wrongW a b) else ((shareW (prC (valV a b a.length) : Nat) (prC ((valV a b a.length).map (·.1)) : Nat), shareW (prC (valV a b a.length) : Nat) (prC ((valV a b a.length).map (·.2)) : Nat)), 0)
def res3V (x : ((Int × Int) × (Int × Int)) × Int) : Value := .tuple #[.agg #[.int .i64 x.1.1.1, .int .i64 x.1.1.2], .agg #[.int .i64 x.1.2.1, .int .i64 x.1.2.2], .int .i64 x.2]
theorem wrong_ok {a b : List Int} (h : wrongW a b = 0) : a.length ≤ 256 ∧ b.length = a.length := by
  unfold wrongW at h
  split at h
  · simp at h
  · split at h
    · simp at h
    · omega
theorem valV_len (a b : List Int) (i : Nat) : (valV a b i).length ≤ i := by
  unfold valV
  refine Nat.le_trans (List.length_filter_le _ _) ?_
  rw [List.length_take]; omega
theorem prC_small {α : Type} [DecidableEq α] {l : List α} (h : l.length ≤ 256) : prC l ≤ 65536 := Nat.le_trans (prC_le l) (Nat.mul_le_mul h h)
theorem c_Compare (p q : Option Addr) (cp cq : Nat) (a b : List Int) (ha : a.length < 2 ^ 63) (hb : b.length < 2 ^ 63) : RetP Tryd.prog n_cognates_Compare [slv p a.length cp, slv q b.length cq] (fun R => Cells R p (intsL a) ∧ Cells R q (intsL b)) (res3V (compareE a b)) := by
  refine Fn.of S_cognates_Compare mx [.p p, .i a.length, .i cp, .p q, .i b.length, .i cq] rfl rfl fun c hp => .alloc fun l0 => .alloc fun l1 => .callV (c_wrong p q cp cq a b ha hb) (fun g => ⟨hp.1.mono g.R, hp.2.mono g.R⟩) (.env (by (try simp only [liE, lO, lU, snd, aN]); rfl) (.ite (fun h1 => .ret rfl ?_) (fun h1 => ?_))) <;> ((try simp only [evE, liE, lO, lU, snd] at h1); (try simp only [cmE] at h1))
  · unfold compareE; rw [if_pos h1]; rfl
  have h0 : wrongW a b = 0 := by simpa using h1
  obtain ⟨h256, hlb⟩ := wrong_ok h0
  unfold compareE
  rw [if_neg (by simp [h0])]
  have hcnt := c_counted p q cp cq a b hlb h256
  have hvl := valV_len a b a.length
  generalize valV a b a.length = ps at *
  rw [hlb]
  refine .callM hcnt rfl rfl (fun g => ⟨hp.1.mono g.R, hp.2.mono g.R⟩) ?_
  rintro v mq hfr ⟨b0, b1, b2, rfl, hM⟩
  refine ⟨[.i (ps.length : Nat), .v (.map (some b0)), .v (.map (some b1)), .v (.map (some b2))], uOk_of rfl, rfl, .env (by (try simp only [liE, lO, lU, snd, aN]); rfl) (.alloc fun l2 => ?_)⟩
  rw [show Mem.emp.join mq = mq from rfl]
  obtain ⟨e0, t0, m0, C0⟩ := hM.both
  refine sumMap key2 um2 m0 C0 (by omega) rfl rfl rfl rfl rfl rfl rfl rfl rfl rfl fun X r m' hr hoth => ?_
  have hM := hM.keep hr hoth
  clear m0 C0 hoth hr
  have hps : prC ps ≤ 65536 := prC_small (by omega)
  have hp1 : prC (ps.map (·.1)) ≤ 65536 := prC_small (by rw [List.length_map]; omega)
  have hp2 : prC (ps.map (·.2)) ≤ 65536 := prC_small (by rw [List.length_map]; omega)
  have hsh : ∀ {g d : Nat}, d > 0 → shareW (g : Int) (d : Int) = lowest g d := fun h => by unfold shareW; rw [if_neg (by omega)]
  have hs0 : ∀ {g : Nat}, shareW (g : Int) ((0 : Nat) : Int) = (1, 1) := by intro g; exact if_pos rfl
  refine .env (by (try simp only [liE, lO, lU, snd, aN]); rfl) (.alloc fun l3 => ?_)
  refine .loop (fun n us m => ∃ i : Nat, i ≤ 2 ∧ n = 2 - i ∧ CtM m b0 b1 b2 ps ∧ us = [.i i, .i (if 0 < i then (shareW (prC ps : Nat) (prC (ps.map (·.1)) : Nat)).1 else 0), .i (if 0 < i then (shareW (prC ps : Nat) (prC (ps.map (·.1)) : Nat)).2 else 0), .i (if 1 < i then (shareW (prC ps : Nat) (prC (ps.map (·.2)) : Nat)).1 else 0), .i (if 1 < i then (shareW (prC ps : Nat) (prC (ps.map (·.2)) : Nat)).2 else 0)]) 2 ⟨0, by omega, rfl, hM, rfl⟩ ?_
  rintro n us m2 _ ⟨i, hi, rfl, hM2, rfl⟩
  obtain rfl | rfl | rfl : i = 0 ∨ i = 1 ∨ i = 2 := by omega
  · refine .env (by (try simp only [liE, lO, lU, snd, aN]); rfl) (.yes rfl (.chk rfl (.chk rfl (.yes rfl ?_))))
    obtain ⟨e1, t1, m1, C1⟩ := hM2.own0
    refine sumMap keyI umI m1 C1 (by rw [List.length_map]; omega) rfl rfl rfl rfl rfl rfl rfl rfl rfl rfl fun X r m' hr hoth => ?_
    have hM3 := hM2.keep hr hoth
    refine .env (by (try simp only [liE, lO, lU, snd, aN]); rfl) (.chk rfl (.chk rfl (.yes rfl (.ite (fun h2 => ?_) (fun h2 => ?_))))) <;> ((try simp only [evE, liE, lO, lU, snd] at h2); (try simp only [cmE] at h2))
    · have hd : prC (ps.map (·.1)) > 0 := by omega
      refine .callV (c_lowest19 (prC ps : Nat) (prC (ps.map (·.1)) : Nat) (by omega) (by omega)) (fun _ => trivial) (.env (by (try simp only [liE, lO, lU, snd, aN]); rfl) (.chk rfl (.chk rfl (.yes rfl (.again rfl ⟨1, by omega, 1, by omega, rfl, hM3, ?_⟩)))))
      show _ = [U.i ((1 : Nat) : Int), .i (shareW (prC ps : Nat) (prC (ps.map (·.1)) : Nat)).1, .i (shareW (prC ps : Nat) (prC (ps.map (·.1)) : Nat)).2, .i 0, .i 0]; rw [hsh hd]; rfl
    · have hd : prC (ps.map (·.1)) = 0 := by omega
      refine .again rfl ⟨1, by omega, 1, by omega, rfl, hM3, ?_⟩
      show _ = [U.i ((1 : Nat) : Int), .i (shareW (prC ps : Nat) (prC (ps.map (·.1)) : Nat)).1, .i (shareW (prC ps : Nat) (prC (ps.map (·.1)) : Nat)).2, .i 0, .i 0]; rw [hd, hs0]; rfl
  · refine .env (by (try simp only [liE, lO, lU, snd, aN]); rfl) (.yes rfl (.chk rfl (.chk rfl (.no rfl (.yes rfl ?_)))))
    obtain ⟨e1, t1, m1, C1⟩ := hM2.own1
    refine sumMap keyI umI m1 C1 (by rw [List.length_map]; omega) rfl rfl rfl rfl rfl rfl rfl rfl rfl rfl fun X r m' hr hoth => ?_
    have hM3 := hM2.keep hr hoth
    refine .env (by (try simp only [liE, lO, lU, snd, aN]); rfl) (.chk rfl (.chk rfl (.no rfl (.yes rfl (.ite (fun h2 => ?_) (fun h2 => ?_)))))) <;> ((try simp only [evE, liE, lO, lU, snd] at h2); (try simp only [cmE] at h2))
    · have hd : prC (ps.map (·.2)) > 0 := by omega
      refine .callV (c_lowest19 (prC ps : Nat) (prC (ps.map (·.2)) : Nat) (by omega) (by omega)) (fun _ => trivial) (.env (by (try simp only [liE, lO, lU, snd, aN]); rfl) (.chk rfl (.chk rfl (.no rfl (.yes rfl (.again rfl ⟨0, by omega, 2, by omega, rfl, hM3, ?_⟩))))))
      show _ = [U.i ((2 : Nat) : Int), .i (shareW (prC ps : Nat) (prC (ps.map (·.1)) : Nat)).1, .i (shareW (prC ps : Nat) (prC (ps.map (·.1)) : Nat)).2, .i (shareW (prC ps : Nat) (prC (ps.map (·.2)) : Nat)).1, .i (shareW (prC ps : Nat) (prC (ps.map (·.2)) : Nat)).2]; rw [hsh hd]; rfl
    · have hd : prC (ps.map (·.2)) = 0 := by omega
      refine .again rfl ⟨0, by omega, 2, by omega, rfl, hM3, ?_⟩
      show _ = [U.i ((2 : Nat) : Int), .i (shareW (prC ps : Nat) (prC (ps.map (·.1)) : Nat)).1, .i (shareW (prC ps : Nat) (prC (ps.map (·.1)) : Nat)).2, .i (shareW (prC ps : Nat) (prC (ps.map (·.2)) : Nat)).1, .i (shareW (prC ps : Nat) (prC (ps.map (·.2)) : Nat)).2]; rw [hd, hs0]; rfl
  · refine .env (by (try simp only [liE, lO, lU, snd, aN]); rfl) (.no rfl (.ret rfl ?_))
    rfl
end Go.Proofs.YthabfpagilbplaaDoor
/- Chapter 19: Compare of the specification. -/
namespace Go.Proofs.YthabfpagilbplaaDoor
open Go Go.Sy Go.RowKit
def inA (a b : List Int) (i k : Nat) : Nat := if okV (labAt a i, labAt b i) then cnt (labAt a i) ((valV a b k).map (·.1)) else 0
end Go.Proofs.YthabfpagilbplaaDoor
