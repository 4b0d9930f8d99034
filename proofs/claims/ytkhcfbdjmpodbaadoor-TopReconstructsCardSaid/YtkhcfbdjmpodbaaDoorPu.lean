
/- Maps: made, read, written. -/
import Derived.Test.YtkhcfbdjmpodbaaDoorPt
import Derived.MapKept
import Derived.Carry
set_option linter.unusedSimpArgs false
set_option linter.unusedVariables false
namespace Go.Sy
open Go Go.RowKit Go.MapKept
structure MapOk (d : TypeDesc) (es : Array MapEntry) (f : Value → Option Value) : Prop where
  at' : ∀ e ∈ es.toList, IsKey d e.key ∧ f e.key = some e.val
  has : ∀ k v, f k = some v → ∃ e ∈ es.toList, e.key = k
  nd : (es.toList.map (·.key)).Nodup
theorem MapOk.empty (d : TypeDesc) : MapOk d #[] fun _ => none := ⟨fun e he => by simp at he, fun k v h => (by cases h), by simp⟩
open Classical in
noncomputable def updF (f : Value → Option Value) (k v : Value) : Value → Option Value := fun x => if x = k then some v else f x
theorem updF_same (f : Value → Option Value) (k v : Value) : updF f k v k = some v := by unfold updF; rw [if_pos rfl]
theorem updF_other (f : Value → Option Value) {k x : Value} (v : Value) (h : x ≠ k) : updF f k v x = f x := by unfold updF; rw [if_neg h]
theorem MapOk.find {d : TypeDesc} {es : Array MapEntry} {f : Value → Option Value} (M : MapOk d es f) {k : Value} (hk : IsKey d k) :
    (Instr.findNow d k es.toList 0 = some none ∧ f k = none ∧ ∀ x ∈ es.toList, x.key ≠ k) ∨ ∃ j e, Instr.findNow d k es.toList 0 = some (some (j, e.val)) ∧ es.toList[j]? = some e ∧ e.key = k ∧ f k = some e.val := by
  rcases findNow_spec hk es.toList 0 (fun x hx => (M.at' x hx).1) with ⟨h1, h2⟩ | ⟨j, e, h1, h2, h3⟩
  · refine .inl ⟨h1, ?_, h2⟩
    cases hf : f k with
    | none => rfl
    | some v => obtain ⟨e, he, hek⟩ := M.has k v hf; exact absurd hek (h2 e he)
  · exact .inr ⟨j, e, by simpa using h1, h2, h3, by rw [← h3]; exact (M.at' e (List.mem_of_getElem? h2)).2⟩
theorem MapOk.push {d : TypeDesc} {es : Array MapEntry} {f : Value → Option Value} (M : MapOk d es f) {k v : Value} (hk : IsKey d k) (hn : ∀ x ∈ es.toList, x.key ≠ k) (n : Nat) : MapOk d (es.push ⟨k, v, n⟩) (updF f k v) where
  at' e he := by
    rw [Array.toList_push, List.mem_append] at he
    rcases he with he | he
    · rw [updF_other f v (hn e he)]; exact M.at' e he
    · simp at he; subst he; exact ⟨hk, updF_same f k v⟩
  has x y h := by
    rw [Array.toList_push]
    by_cases e : x = k
    · exact ⟨_, List.mem_append_right _ (List.mem_cons_self ..), e.symm⟩
    · rw [updF_other f v e] at h
      obtain ⟨e, he, h⟩ := M.has x y h
      exact ⟨e, List.mem_append_left _ he, h⟩
  nd := by
    rw [Array.toList_push, List.map_append, List.nodup_append]
    refine ⟨M.nd, by simp, fun a ha b hb => ?_⟩
    simp at hb; subst hb
    obtain ⟨e, he, rfl⟩ := List.mem_map.1 ha
    exact hn e he
theorem MapOk.modify {d : TypeDesc} {es : Array MapEntry} {f : Value → Option Value} (M : MapOk d es f) {k v : Value} {j : Nat} {e0 : MapEntry} (hj : es.toList[j]? = some e0) (h0 : e0.key = k) : MapOk d (es.modify j fun e => { e with key := k, val := v }) (updF f k v) := by
  have hlt : j < es.toList.length := (List.getElem?_eq_some_iff.1 hj).1
  have hl : (es.modify j fun e => { e with key := k, val := v }).toList = es.toList.set j { e0 with key := k, val := v } := by
    apply List.ext_getElem?
    intro i
    rw [Array.getElem?_toList, Array.getElem?_modify, List.getElem?_set]
    by_cases e : j = i
    · subst e
      rw [if_pos rfl, if_pos rfl, if_pos hlt, ← Array.getElem?_toList, hj]; rfl
    · rw [if_neg e, if_neg e, Array.getElem?_toList]
  have hmap : (es.toList.set j { e0 with key := k, val := v }).map (·.key) = es.toList.map (·.key) := by
    rw [List.map_set]
    apply List.ext_getElem?
    intro i
    rw [List.getElem?_set]
    by_cases e : j = i
    · subst e
      rw [if_pos rfl, if_pos (by simpa using hlt), List.getElem?_map, hj]; simp [h0]
    · rw [if_neg e]
  have hne : ∀ e ∈ es.toList, ∀ i, es.toList[i]? = some e → i ≠ j → e.key ≠ k := fun e he i hi hij hk => by
    have h1 : (es.toList.map (·.key))[i]? = some k := by rw [List.getElem?_map, hi]; simp [hk]
    have h2 : (es.toList.map (·.key))[j]? = some k := by rw [List.getElem?_map, hj]; simp [h0]
    exact hij ((List.getElem?_inj (by simpa using (List.getElem?_eq_some_iff.1 hi).1) M.nd).1 (h1.trans h2.symm))
  refine ⟨fun e he => ?_, fun x y h => ?_, by rw [hl, hmap]; exact M.nd⟩
  · rw [hl] at he
    obtain ⟨i, hi⟩ := List.mem_iff_getElem?.1 he
    rw [List.getElem?_set] at hi
    by_cases e' : j = i
    · subst e'
      rw [if_pos rfl, if_pos hlt] at hi
      cases hi
      exact ⟨by rw [← h0]; exact (M.at' e0 (List.mem_of_getElem? hj)).1, updF_same f k v⟩
    · rw [if_neg e'] at hi
      have := hne e (List.mem_of_getElem? hi) i hi (Ne.symm e')
      rw [updF_other f v this]
      exact M.at' e (List.mem_of_getElem? hi)
  · rw [hl]
    have hk0 : k ∈ es.toList.map (·.key) := List.mem_map.2 ⟨e0, List.mem_of_getElem? hj, h0⟩
    have hx : x ∈ es.toList.map (·.key) := by
      by_cases e : x = k
      · exact e ▸ hk0
      · rw [updF_other f v e] at h
        obtain ⟨e, he, rfl⟩ := M.has x y h
        exact List.mem_map_of_mem he
    rw [← hmap] at hx
    obtain ⟨e, he, rfl⟩ := List.mem_map.1 hx
    exact ⟨e, he, rfl⟩
section
variable {P : Program} {w : World} {t kt et : TypeId} {d : TypeDesc} {es : Array MapEntry} {f : Value → Option Value} {b clock : Nat}
theorem run_lookup_map (ht : P.underlying t = some (.map kt et)) (hd : P.underlying kt = some d) {z : Value} (hz : (zeroValue et).run P w = .ok z w) (hb : w.heap[b]? = some (.map es clock)) (M : MapOk d es f) {k : Value} (hk : IsKey d k) :
    (Instr.lookup t (.map (some b)) k false).run P w = .ok ((f k).getD z) w := by
  rcases M.find hk with ⟨h1, h2, _⟩ | ⟨j, e, h1, h2, h3, h4⟩
  · simp [Instr.lookup, run_underlying ht, MapKept.run_getObj_map hb, run_checkKey hd hk, run_findKey hd h1, Result.andThen, hz, h2]
  · simp [Instr.lookup, run_underlying ht, MapKept.run_getObj_map hb, run_checkKey hd hk, run_findKey hd h1, Result.andThen, h4]
theorem run_mapUpdate_map (ht : P.underlying t = some (.map kt et)) (hd : P.underlying kt = some d) (hb : w.heap[b]? = some (.map es clock)) (M : MapOk d es f) {k v : Value} (hk : IsKey d k) :
    ∃ es' clock', (Instr.mapUpdate t (.map (some b)) k v).run P w = .ok () { w with heap := w.heap.setIfInBounds b (.map es' clock') } ∧ MapOk d es' (updF f k v) := by
  rcases M.find hk with ⟨h1, h2, h3⟩ | ⟨j, e, h1, h2, h3, h4⟩
  · refine ⟨_, clock + 1, ?_, M.push hk h3 clock (v := v)⟩
    simp [Instr.mapUpdate, run_underlying ht, MapKept.run_getObj_map hb, run_checkKey hd hk, run_findKey hd h1, Result.andThen, MapKept.run_setObj_map _ hb]
  · refine ⟨_, clock, ?_, M.modify h2 h3 (v := v)⟩
    have h2' : es[j]? = some e := by rw [← Array.getElem?_toList]; exact h2
    simp [Instr.mapUpdate, run_underlying ht, MapKept.run_getObj_map hb, run_checkKey hd hk, run_findKey hd h1, Result.andThen, MapKept.run_setObj_map _ hb, h2', h3, run_keyThatStays hk]
end
section
variable {P : Program} {c : Cx} {L : List Nat} {ρ : Env} {blks : List Blk} {m : Mem} {R : Value → HW → Prop} {Dn : Nat → List U → HW → Prop} {A : List (List U → HW → Prop)}
theorem DenM.extuM {x : XOp} {k : Tree} (h : Good c L m → ∀ w, Wd L ρ blks (c.hw m) w → ∃ w' g0 m', (XOp.sem x.op x.type (SV.dens L ρ x.args)).run P w = .ok .skip w' ∧ w.grownBy w' g0 ∧ (∀ g, g0 = some g → m g ≠ none) ∧
      (∀ b, b < w.heap.size → some b ≠ g0 → m' b = m b) ∧ (HW.mem m').H w' ∧ DenM P R Dn k L ρ c m' A) : DenM P R Dn (.extu false x blks k) L ρ c m A := fun g w hw => by
  obtain ⟨w', g0, m', hrun, hgr, hg0, hm', hH, hk⟩ := h g w hw
  have hgood : Good c L m' := ⟨fun b hb' ho => by
      have hlt := c.hb.inb w b hw.hold.1 ho
      by_cases e : some b = g0
      · exact g.mem b (hg0 b e.symm) ho
      · rw [hm' b hlt e] at hb'; exact g.mem b hb' ho, fun b hb' => ⟨by
      have e : some b ≠ g0 := fun e => hg0 b e.symm (g.blk b hb').1
      rw [hm' b (hw.lt b hb') e]; exact (g.blk b hb').1, (g.blk b hb').2⟩, g.nd⟩
  have hblk : ∀ b, b < w.heap.size → m b = none → w'.heap[b]? = w.heap[b]? ∧ m' b = none := fun b hb hn => by
    have e : some b ≠ g0 := fun e => hg0 b e.symm hn
    exact ⟨hgr.block b hb e, (hm' b hb e).trans hn⟩
  have hwd : Wd L ρ blks (c.hw m') w' := ⟨hw.len, fun j k hj => (hblk _ (hw.lt _ (getD_mem (by rw [hw.len]; exact (List.getElem?_eq_some_iff.1 hj).1))) (g.blk _ (getD_mem (by rw [hw.len]; exact (List.getElem?_eq_some_iff.1 hj).1))).1).1.trans (hw.blk j k hj), hw.nd, fun b hb ho => by
    rcases ho with ho | ho
    · exact (g.blk b hb).2 ho
    · exact ho (hgood.blk b hb).1, c.hb.stab w w' hw.hold.1 hgr.size (fun b hb => (hblk b (c.hb.inb w b hw.hold.1 hb) (by
      cases hm : m b with
      | none => rfl
      | some o => exact absurd hb (g.mem b (by rw [hm]; simp)))).1) hgr.tape hgr.os hgr.output, hH⟩
  refine ⟨w', hrun, c.hw m', ⟨hgr.size, fun k hk hn => ?_, hgr.tape, hgr.os, hgr.output⟩, fun h => (by cases h), hwd, hk hgood⟩
  have hn' : m k = none := by
    cases hm : m k with
    | none => rfl
    | some o => exact absurd (Or.inl (.inr (by show m k ≠ none; rw [hm]; simp))) hn
  have h2 := hblk k hk hn'
  refine ⟨fun ho => ?_, h2.1⟩
  rcases ho with (ho | ho) | ho
  · exact hn (.inl (.inl ho))
  · exact ho h2.2
  · exact hn (.inr ho)
theorem DenM.mkMap {p : Bool} {t ty : TypeId} {k : Tree} (hk : ∀ b, m b = none → b ∉ L → DenM P R Dn k L (ρ ++ [.v (.map (some b))]) c (m.upd b (.map #[] 0)) A) (hs : scBlks ρ.length blks = true := by rfl) : DenM P R Dn (.ext p ⟨.makeMap t none, ty, []⟩ .val blks k) L ρ c m A := .extM hs fun g w hw => by
  have hlt : ∀ b, m b ≠ none → b < w.heap.size := fun b hb => (HW.mem m).inb w b hw.hold.2 hb
  have hmn : m w.heap.size = none := by
    cases h : m w.heap.size with
    | none => rfl
    | some o => have := hlt w.heap.size (by rw [h]; simp); omega
  have hL : w.heap.size ∉ L := fun h => by have := hw.lt _ h; omega
  refine ⟨.map (some w.heap.size), w.alloc (.map #[] 0), none, m.upd w.heap.size (.map #[] 0), [.v (.map (some w.heap.size))], ?_, World.grownBy_alloc w (.map #[] 0) none, fun _ h => (by cases h), fun b hb _ => Mem.upd_other _ _ (by omega), fun b o hb => ?_, fun _ => rfl, uOk_of rfl, ?_, hk w.heap.size hmn hL⟩
  · show (do pure (Next.value (← Instr.makeMap t none)) : Sem Next).run P w = _
    rw [Sem.run_bind, run_makeMap]; rfl
  · by_cases e : b = w.heap.size
    · rw [e, Mem.upd_same] at hb
      cases hb
      rw [e]; exact (MapKept.heap_alloc w _).1
    · rw [Mem.upd_other _ _ e] at hb
      have h1 := hw.hold.2 b o hb
      have h2 := hlt b (by rw [hb]; simp)
      rw [← h1]
      exact (MapKept.heap_alloc w _).2 b h2
  · have := getElem_env ρ [.v (.map (some w.heap.size))] 0
    rw [Nat.add_zero] at this
    simp only [Sh.fresh, SV.den, Env.val, this]; rfl
theorem DenM.lookupV {t kt et ty : TypeId} {d : TypeDesc} {xo yo : Operand} {ms ks : SV} {sh : Sh} {k : Tree} (z key : Value) (es : Array MapEntry) (f : Value → Option Value) (b : Nat) (us : List U) (ht : P.underlying t = some (.map kt et)) (hd : P.underlying kt = some d) (hz : ∀ w, (zeroValue et).run P w = .ok z w)
    (hkey : ks.den L ρ = key) (hik : IsKey d key) (hm : Good c L m → (vw c L ρ blks m).m b = some es) (M : MapOk d es f) (hus : UOk sh us) (hv : (f key).getD z = (sh.fresh ρ.length).1.den L (ρ ++ us)) (hk : DenM P R Dn k L (ρ ++ us) c m A) (hms : ms.den L ρ = .map (some b) := by rfl) :
    DenM P R Dn (.extp ⟨.lookup t xo yo false, ty, [ms, ks]⟩ sh blks k) L ρ c m A := .extp us hus (fun g w hw => by
  obtain ⟨clock, hb⟩ := Mv.of_m.1 ((vw_cell hw).m b es (hm g))
  show (do pure (Next.value (← Instr.lookup t (ms.den L ρ) (ks.den L ρ) false)) : Sem Next).run P w = _
  rw [hms, hkey, Sem.run_bind, run_lookup_map ht hd (hz w) hb M hik, hv]; rfl) hk
theorem DenM.updateV {t kt et ty : TypeId} {d : TypeDesc} {xo yo zo : Operand} {ms ks vs : SV} {k : Tree} (key v : Value) (es : Array MapEntry) (f : Value → Option Value) (b clock : Nat) (ht : P.underlying t = some (.map kt et)) (hd : P.underlying kt = some d)
    (hkey : ks.den L ρ = key) (hik : IsKey d key) (hvs : vs.den L ρ = v) (hm : m b = some (.map es clock)) (M : MapOk d es f) (hk : ∀ es' clock', MapOk d es' (updF f key v) → DenM P R Dn k L ρ c (m.upd b (.map es' clock')) A) (hms : ms.den L ρ = .map (some b) := by rfl) :
    DenM P R Dn (.extu false ⟨.mapUpdate t xo yo zo, ty, [ms, ks, vs]⟩ blks k) L ρ c m A := .extuM fun g w hw => by
  have hb := hw.hold.2 b _ hm
  obtain ⟨es', clock', hrun, M'⟩ := run_mapUpdate_map (v := v) ht hd hb M hik
  refine ⟨{ w with heap := w.heap.setIfInBounds b (.map es' clock') }, some b, m.upd b (.map es' clock'), ?_, ⟨rfl, rfl, rfl, by simp, fun i _ hi => (heap_set hb).2 i fun e => hi (by rw [e])⟩, fun g h => by cases h; rw [hm]; simp, fun i _ hi => Mem.upd_other _ _ fun e => hi (by rw [e]), fun i o hi => ?_, hk es' clock' M'⟩
  · show (do Instr.mapUpdate t (ms.den L ρ) (ks.den L ρ) (vs.den L ρ); pure Next.skip : Sem Next).run P w = _
    rw [hms, hkey, hvs, Sem.run_bind, hrun]; rfl
  · by_cases e : i = b
    · rw [e, Mem.upd_same] at hi
      cases hi
      rw [e]; exact (heap_set hb).1
    · rw [Mem.upd_other _ _ e] at hi
      exact ((heap_set hb).2 i e).trans (hw.hold.2 i o hi)
end
end Go.Sy

