/- Maps: made, read, written. -/
import Derived.Test.YtpbbnmjkbfbelaaDoorPt
import Derived.MapKept
import Derived.Carry
import Derived.Test.YtpbbnmjkbfbelaaDoorBd
import Derived.Laws.BytesArg
import Derived.Test.YtpbbnmjkbfbelaaDoorTe
import Derived.WalkSpells
import Derived.Laws.Strings
import Derived.Laws.StructEq
set_option linter.unusedSimpArgs false
set_option linter.unusedVariables false
/- Maps: made, read, written. -/
namespace Go.Sy
open Go Go.RowKit Go.MapKept
/-- The entries of a map, as a function. -/
structure MapOk (d : TypeDesc) (es : Array MapEntry) (f : Value → Option Value) : Prop where
  at' : ∀ e ∈ es.toList, IsKey d e.key ∧ f e.key = some e.val
  has : ∀ k v, f k = some v → ∃ e ∈ es.toList, e.key = k
  nd : (es.toList.map (·.key)).Nodup
theorem MapOk.empty (d : TypeDesc) : MapOk d #[] fun _ => none := ⟨fun e he => by simp at he, fun k v h => (by cases h), by simp⟩
open Classical in
/-- One key more, or another value at it. -/
noncomputable def updF (f : Value → Option Value) (k v : Value) : Value → Option Value := fun x => if x = k then some v else f x
theorem updF_same (f : Value → Option Value) (k v : Value) : updF f k v k = some v := by unfold updF; rw [if_pos rfl]
theorem updF_other (f : Value → Option Value) {k x : Value} (v : Value) (h : x ≠ k) : updF f k v x = f x := by unfold updF; rw [if_neg h]
theorem MapOk.find {d : TypeDesc} {es : Array MapEntry} {f : Value → Option Value} (M : MapOk d es f) {k : Value} (hk : IsKey d k) :
    (Instr.findNow d k es.toList 0 = some none ∧ f k = none ∧ ∀ x ∈ es.toList, x.key ≠ k) ∨ ∃ j e, Instr.findNow d k es.toList 0 = some (some (j, e.val)) ∧ es.toList[j]? = some e ∧ e.key = k ∧ f k = some e.val := by
  rcases findNow_spec hk es.toList 0 (fun x hx => (M.at' x hx).1) with ⟨h1, h2⟩ | ⟨j, e, h1, h2, h3⟩
  · refine .inl ⟨h1, ?_, h2⟩
    cases hf : f k with
    | none => rfl
    | some v => obtain ⟨e, he, hek⟩ := M.has k v hf; exact absurd hek (h2 e he)
  · exact .inr ⟨j, e, by simpa using h1, h2, h3, by rw [← h3]; exact (M.at' e (List.mem_of_getElem? h2)).2⟩
theorem MapOk.push {d : TypeDesc} {es : Array MapEntry} {f : Value → Option Value} (M : MapOk d es f) {k v : Value} (hk : IsKey d k) (hn : ∀ x ∈ es.toList, x.key ≠ k) (n : Nat) : MapOk d (es.push ⟨k, v, n⟩) (updF f k v) where
  at' e he := by
    rw [Array.toList_push, List.mem_append] at he
    rcases he with he | he
    · rw [updF_other f v (hn e he)]; exact M.at' e he
    · simp at he; subst he; exact ⟨hk, updF_same f k v⟩
  has x y h := by
    rw [Array.toList_push]
    by_cases e : x = k
    · exact ⟨_, List.mem_append_right _ (List.mem_cons_self ..), e.symm⟩
    · rw [updF_other f v e] at h
      obtain ⟨e, he, h⟩ := M.has x y h
      exact ⟨e, List.mem_append_left _ he, h⟩
  nd := by
    rw [Array.toList_push, List.map_append, List.nodup_append]
    refine ⟨M.nd, by simp, fun a ha b hb => ?_⟩
    simp at hb; subst hb
    obtain ⟨e, he, rfl⟩ := List.mem_map.1 ha
    exact hn e he
theorem MapOk.modify {d : TypeDesc} {es : Array MapEntry} {f : Value → Option Value} (M : MapOk d es f) {k v : Value} {j : Nat} {e0 : MapEntry} (hj : es.toList[j]? = some e0) (h0 : e0.key = k) : MapOk d (es.modify j fun e => { e with key := k, val := v }) (updF f k v) := by
  have hlt : j < es.toList.length := (List.getElem?_eq_some_iff.1 hj).1
  have hl : (es.modify j fun e => { e with key := k, val := v }).toList = es.toList.set j { e0 with key := k, val := v } := by
    apply List.ext_getElem?
    intro i
    rw [Array.getElem?_toList, Array.getElem?_modify, List.getElem?_set]
    by_cases e : j = i
    · subst e
      rw [if_pos rfl, if_pos rfl, if_pos hlt, ← Array.getElem?_toList, hj]; rfl
    · rw [if_neg e, if_neg e, Array.getElem?_toList]
  have hmap : (es.toList.set j { e0 with key := k, val := v }).map (·.key) = es.toList.map (·.key) := by
    rw [List.map_set]
    apply List.ext_getElem?
    intro i
    rw [List.getElem?_set]
    by_cases e : j = i
    · subst e
      rw [if_pos rfl, if_pos (by simpa using hlt), List.getElem?_map, hj]; simp [h0]
    · rw [if_neg e]
  have hne : ∀ e ∈ es.toList, ∀ i, es.toList[i]? = some e → i ≠ j → e.key ≠ k := fun e he i hi hij hk => by
    have h1 : (es.toList.map (·.key))[i]? = some k := by rw [List.getElem?_map, hi]; simp [hk]
    have h2 : (es.toList.map (·.key))[j]? = some k := by rw [List.getElem?_map, hj]; simp [h0]
    exact hij ((List.getElem?_inj (by simpa using (List.getElem?_eq_some_iff.1 hi).1) M.nd).1 (h1.trans h2.symm))
  refine ⟨fun e he => ?_, fun x y h => ?_, by rw [hl, hmap]; exact M.nd⟩
  · rw [hl] at he
    obtain ⟨i, hi⟩ := List.mem_iff_getElem?.1 he
    rw [List.getElem?_set] at hi
    by_cases e' : j = i
    · subst e'
      rw [if_pos rfl, if_pos hlt] at hi
      cases hi
      exact ⟨by rw [← h0]; exact (M.at' e0 (List.mem_of_getElem? hj)).1, updF_same f k v⟩
    · rw [if_neg e'] at hi
      have := hne e (List.mem_of_getElem? hi) i hi (Ne.symm e')
      rw [updF_other f v this]
      exact M.at' e (List.mem_of_getElem? hi)
  · rw [hl]
    have hk0 : k ∈ es.toList.map (·.key) := List.mem_map.2 ⟨e0, List.mem_of_getElem? hj, h0⟩
    have hx : x ∈ es.toList.map (·.key) := by
      by_cases e : x = k
      · exact e ▸ hk0
      · rw [updF_other f v e] at h
        obtain ⟨e, he, rfl⟩ := M.has x y h
        exact List.mem_map_of_mem he
    rw [← hmap] at hx
    obtain ⟨e, he, rfl⟩ := List.mem_map.1 hx
    exact ⟨e, he, rfl⟩
section
variable {P : Program} {w : World} {t kt et : TypeId} {d : TypeDesc} {es : Array MapEntry} {f : Value → Option Value} {b clock : Nat}
theorem run_lookup_map (ht : P.underlying t = some (.map kt et)) (hd : P.underlying kt = some d) {z : Value} (hz : (zeroValue et).run P w = .ok z w) (hb : w.heap[b]? = some (.map es clock)) (M : MapOk d es f) {k : Value} (hk : IsKey d k) :
    (Instr.lookup t (.map (some b)) k false).run P w = .ok ((f k).getD z) w := by
  rcases M.find hk with ⟨h1, h2, _⟩ | ⟨j, e, h1, h2, h3, h4⟩
  · simp [Instr.lookup, run_underlying ht, MapKept.run_getObj_map hb, run_checkKey hd hk, run_findKey hd h1, Result.andThen, hz, h2]
  · simp [Instr.lookup, run_underlying ht, MapKept.run_getObj_map hb, run_checkKey hd hk, run_findKey hd h1, Result.andThen, h4]
theorem run_mapUpdate_map (ht : P.underlying t = some (.map kt et)) (hd : P.underlying kt = some d) (hb : w.heap[b]? = some (.map es clock)) (M : MapOk d es f) {k v : Value} (hk : IsKey d k) :
    ∃ es' clock', (Instr.mapUpdate t (.map (some b)) k v).run P w = .ok () { w with heap := w.heap.setIfInBounds b (.map es' clock') } ∧ MapOk d es' (updF f k v) := by
  rcases M.find hk with ⟨h1, h2, h3⟩ | ⟨j, e, h1, h2, h3, h4⟩
  · refine ⟨_, clock + 1, ?_, M.push hk h3 clock (v := v)⟩
    simp [Instr.mapUpdate, run_underlying ht, MapKept.run_getObj_map hb, run_checkKey hd hk, run_findKey hd h1, Result.andThen, MapKept.run_setObj_map _ hb]
  · refine ⟨_, clock, ?_, M.modify h2 h3 (v := v)⟩
    have h2' : es[j]? = some e := by rw [← Array.getElem?_toList]; exact h2
    simp [Instr.mapUpdate, run_underlying ht, MapKept.run_getObj_map hb, run_checkKey hd hk, run_findKey hd h1, Result.andThen, MapKept.run_setObj_map _ hb, h2', h3, run_keyThatStays hk]
end
section
variable {P : Program} {c : Cx} {L : List Nat} {ρ : Env} {blks : List Blk} {m : Mem} {R : Value → HW → Prop} {Dn : Nat → List U → HW → Prop} {A : List (List U → HW → Prop)}
theorem DenM.extuM {x : XOp} {k : Tree} (h : Good c L m → ∀ w, Wd L ρ blks (c.hw m) w → ∃ w' g0 m', (XOp.sem x.op x.type (SV.dens L ρ x.args)).run P w = .ok .skip w' ∧ w.grownBy w' g0 ∧ (∀ g, g0 = some g → m g ≠ none) ∧
      (∀ b, b < w.heap.size → some b ≠ g0 → m' b = m b) ∧ (HW.mem m').H w' ∧ DenM P R Dn k L ρ c m' A) : DenM P R Dn (.extu false x blks k) L ρ c m A := fun g w hw => by
  obtain ⟨w', g0, m', hrun, hgr, hg0, hm', hH, hk⟩ := h g w hw
  have hgood : Good c L m' := ⟨fun b hb' ho => by
      have hlt := c.hb.inb w b hw.hold.1 ho
      by_cases e : some b = g0
      · exact g.mem b (hg0 b e.symm) ho
      · rw [hm' b hlt e] at hb'; exact g.mem b hb' ho, fun b hb' => ⟨by
      have e : some b ≠ g0 := fun e => hg0 b e.symm (g.blk b hb').1
      rw [hm' b (hw.lt b hb') e]; exact (g.blk b hb').1, (g.blk b hb').2⟩, g.nd⟩
  have hblk : ∀ b, b < w.heap.size → m b = none → w'.heap[b]? = w.heap[b]? ∧ m' b = none := fun b hb hn => by
    have e : some b ≠ g0 := fun e => hg0 b e.symm hn
    exact ⟨hgr.block b hb e, (hm' b hb e).trans hn⟩
  have hwd : Wd L ρ blks (c.hw m') w' := ⟨hw.len, fun j k hj => (hblk _ (hw.lt _ (getD_mem (by rw [hw.len]; exact (List.getElem?_eq_some_iff.1 hj).1))) (g.blk _ (getD_mem (by rw [hw.len]; exact (List.getElem?_eq_some_iff.1 hj).1))).1).1.trans (hw.blk j k hj), hw.nd, fun b hb ho => by
    rcases ho with ho | ho
    · exact (g.blk b hb).2 ho
    · exact ho (hgood.blk b hb).1, c.hb.stab w w' hw.hold.1 hgr.size (fun b hb => (hblk b (c.hb.inb w b hw.hold.1 hb) (by
      cases hm : m b with
      | none => rfl
      | some o => exact absurd hb (g.mem b (by rw [hm]; simp)))).1) hgr.tape hgr.os hgr.output, hH⟩
  refine ⟨w', hrun, c.hw m', ⟨hgr.size, fun k hk hn => ?_, hgr.tape, hgr.os, hgr.output⟩, fun h => (by cases h), hwd, hk hgood⟩
  have hn' : m k = none := by
    cases hm : m k with
    | none => rfl
    | some o => exact absurd (Or.inl (.inr (by show m k ≠ none; rw [hm]; simp))) hn
  have h2 := hblk k hk hn'
  refine ⟨fun ho => ?_, h2.1⟩
  rcases ho with (ho | ho) | ho
  · exact hn (.inl (.inl ho))
  · exact ho h2.2
  · exact hn (.inr ho)
/-- A map is made. -/
theorem DenM.mkMap {p : Bool} {t ty : TypeId} {k : Tree} (hk : ∀ b, m b = none → b ∉ L → DenM P R Dn k L (ρ ++ [.v (.map (some b))]) c (m.upd b (.map #[] 0)) A) (hs : scBlks ρ.length blks = true := by rfl) : DenM P R Dn (.ext p ⟨.makeMap t none, ty, []⟩ .val blks k) L ρ c m A := .extM hs fun g w hw => by
  have hlt : ∀ b, m b ≠ none → b < w.heap.size := fun b hb => (HW.mem m).inb w b hw.hold.2 hb
  have hmn : m w.heap.size = none := by
    cases h : m w.heap.size with
    | none => rfl
    | some o => have := hlt w.heap.size (by rw [h]; simp); omega
  have hL : w.heap.size ∉ L := fun h => by have := hw.lt _ h; omega
  refine ⟨.map (some w.heap.size), w.alloc (.map #[] 0), none, m.upd w.heap.size (.map #[] 0), [.v (.map (some w.heap.size))], ?_, World.grownBy_alloc w (.map #[] 0) none, fun _ h => (by cases h), fun b hb _ => Mem.upd_other _ _ (by omega), fun b o hb => ?_, fun _ => rfl, uOk_of rfl, ?_, hk w.heap.size hmn hL⟩
  · show (do pure (Next.value (← Instr.makeMap t none)) : Sem Next).run P w = _
    rw [Sem.run_bind, run_makeMap]; rfl
  · by_cases e : b = w.heap.size
    · rw [e, Mem.upd_same] at hb
      cases hb
      rw [e]; exact (MapKept.heap_alloc w _).1
    · rw [Mem.upd_other _ _ e] at hb
      have h1 := hw.hold.2 b o hb
      have h2 := hlt b (by rw [hb]; simp)
      rw [← h1]
      exact (MapKept.heap_alloc w _).2 b h2
  · have := getElem_env ρ [.v (.map (some w.heap.size))] 0
    rw [Nat.add_zero] at this
    simp only [Sh.fresh, SV.den, Env.val, this]; rfl
/-- A map is read. -/
theorem DenM.lookupV {t kt et ty : TypeId} {d : TypeDesc} {xo yo : Operand} {ms ks : SV} {sh : Sh} {k : Tree} (z key : Value) (es : Array MapEntry) (f : Value → Option Value) (b : Nat) (us : List U) (ht : P.underlying t = some (.map kt et)) (hd : P.underlying kt = some d) (hz : ∀ w, (zeroValue et).run P w = .ok z w)
    (hkey : ks.den L ρ = key) (hik : IsKey d key) (hm : Good c L m → (vw c L ρ blks m).m b = some es) (M : MapOk d es f) (hus : UOk sh us) (hv : (f key).getD z = (sh.fresh ρ.length).1.den L (ρ ++ us)) (hk : DenM P R Dn k L (ρ ++ us) c m A) (hms : ms.den L ρ = .map (some b) := by rfl) :
    DenM P R Dn (.extp ⟨.lookup t xo yo false, ty, [ms, ks]⟩ sh blks k) L ρ c m A := .extp us hus (fun g w hw => by
  obtain ⟨clock, hb⟩ := Mv.of_m.1 ((vw_cell hw).m b es (hm g))
  show (do pure (Next.value (← Instr.lookup t (ms.den L ρ) (ks.den L ρ) false)) : Sem Next).run P w = _
  rw [hms, hkey, Sem.run_bind, run_lookup_map ht hd (hz w) hb M hik, hv]; rfl) hk
/-- A map is written. -/
theorem DenM.updateV {t kt et ty : TypeId} {d : TypeDesc} {xo yo zo : Operand} {ms ks vs : SV} {k : Tree} (key v : Value) (es : Array MapEntry) (f : Value → Option Value) (b clock : Nat) (ht : P.underlying t = some (.map kt et)) (hd : P.underlying kt = some d)
    (hkey : ks.den L ρ = key) (hik : IsKey d key) (hvs : vs.den L ρ = v) (hm : m b = some (.map es clock)) (M : MapOk d es f) (hk : ∀ es' clock', MapOk d es' (updF f key v) → DenM P R Dn k L ρ c (m.upd b (.map es' clock')) A) (hms : ms.den L ρ = .map (some b) := by rfl) :
    DenM P R Dn (.extu false ⟨.mapUpdate t xo yo zo, ty, [ms, ks, vs]⟩ blks k) L ρ c m A := .extuM fun g w hw => by
  have hb := hw.hold.2 b _ hm
  obtain ⟨es', clock', hrun, M'⟩ := run_mapUpdate_map (v := v) ht hd hb M hik
  refine ⟨{ w with heap := w.heap.setIfInBounds b (.map es' clock') }, some b, m.upd b (.map es' clock'), ?_, ⟨rfl, rfl, rfl, by simp, fun i _ hi => (heap_set hb).2 i fun e => hi (by rw [e])⟩, fun g h => by cases h; rw [hm]; simp, fun i _ hi => Mem.upd_other _ _ fun e => hi (by rw [e]), fun i o hi => ?_, hk es' clock' M'⟩
  · show (do Instr.mapUpdate t (ms.den L ρ) (ks.den L ρ) (vs.den L ρ); pure Next.skip : Sem Next).run P w = _
    rw [hms, hkey, hvs, Sem.run_bind, hrun]; rfl
  · by_cases e : i = b
    · rw [e, Mem.upd_same] at hi
      cases hi
      rw [e]; exact (heap_set hb).1
    · rw [Mem.upd_other _ _ e] at hi
      exact ((heap_set hb).2 i e).trans (hw.hold.2 i o hi)
end
end Go.Sy
/- Chapter 30: the key of a word. -/
namespace Go.Sy
open Go Go.RowKit
def kb (n : Nat) : List Int := [IntKind.u8.wrap n, IntKind.u8.wrap (ar .shr .u32 n 8), IntKind.u8.wrap (ar .shr .u32 n 16)]
def keyN (w : List Snd) : List Int := w.flatMap fun s => kb s.1 ++ kb s.2
def keyV (w : List Snd) : Value := .string (strOfNums (keyN w))
theorem keyN_snoc {w : List Snd} {j : Nat} (hj : j < w.length) : keyN (w.take (j + 1)) = keyN (w.take j) ++ (kb w[j].1 ++ kb w[j].2) := by
  unfold keyN
  rw [List.take_succ_eq_append_getElem hj, List.flatMap_append]; simp
theorem wrap8 (n : Nat) : IntKind.u8.wrap (n : Int) = ((n % 256 : Nat) : Int) := by
  have : IntKind.u8.wrap (n : Int) = (n : Int) % 256 := rfl
  rw [this]; omega
theorem kb_eq (n : Nat) : kb n = [((n % 256 : Nat) : Int), ((n / 256 % 256 : Nat) : Int), ((n / 65536 % 256 : Nat) : Int)] := by
  unfold kb
  have h1 := ar_shr n 8 (by omega)
  have h2 := ar_shr n 16 (by omega)
  have e1 : ar .shr .u32 (n : Int) 8 = ((n / 256 : Nat) : Int) := by
    rw [show (8 : Int) = ((8 : Nat) : Int) from rfl, h1, Nat.shiftRight_eq_div_pow]
  have e2 : ar .shr .u32 (n : Int) 16 = ((n / 65536 : Nat) : Int) := by
    rw [show (16 : Int) = ((16 : Nat) : Int) from rfl, h2, Nat.shiftRight_eq_div_pow]
  rw [e1, e2, wrap8, wrap8, wrap8]
theorem kb_inj {n k : Nat} (hn : n < 16777216) (hk : k < 16777216) (h : kb n = kb k) : n = k := by
  rw [kb_eq, kb_eq] at h
  simp only [List.cons.injEq, and_true] at h
  obtain ⟨h1, h2, h3⟩ := h
  have h1 : n % 256 = k % 256 := by omega
  have h2 : n / 256 % 256 = k / 256 % 256 := by omega
  have h3 : n / 65536 % 256 = k / 65536 % 256 := by omega
  omega
theorem kb_len (n : Nat) : (kb n).length = 3 := rfl
theorem kb_small (n : Nat) : ∀ x ∈ kb n, 0 ≤ x ∧ x < 256 := by
  rw [kb_eq]; simp only [List.mem_cons, List.not_mem_nil, or_false]
  rintro x (rfl | rfl | rfl) <;> omega
theorem keyN_small (w : List Snd) : ∀ x ∈ keyN w, 0 ≤ x ∧ x < 256 := by
  intro x hx
  obtain ⟨s, _, hs⟩ := List.mem_flatMap.1 hx
  rcases List.mem_append.1 hs with h | h
  · exact kb_small _ x h
  · exact kb_small _ x h
theorem valid_24 {s : Snd} (h : valid s = true) : s.1 < 16777216 ∧ s.2 < 16777216 := by
  unfold valid at h
  simp only [Bool.and_eq_true, decide_eq_true_eq] at h
  have h1 : s.1 ||| s.2 ≤ 16777215 := by omega
  have := Nat.left_le_or (n := s.1) (m := s.2)
  have := Nat.right_le_or (n := s.1) (m := s.2)
  omega
theorem keyN_inj {a b : List Snd} (ha : ∀ s ∈ a, valid s = true) (hb : ∀ s ∈ b, valid s = true) (h : keyN a = keyN b) : a = b := by
  induction a generalizing b with
  | nil =>
    cases b with
    | nil => rfl
    | cons t b => simp [keyN, kb] at h
  | cons s a ih =>
    cases b with
    | nil => simp [keyN, kb] at h
    | cons t b =>
      have e : ∀ (s : Snd) (a : List Snd), keyN (s :: a) = kb s.1 ++ (kb s.2 ++ keyN a) := fun s a => by simp [keyN]
      rw [e, e] at h
      obtain ⟨h1, h2⟩ := List.append_inj h rfl
      obtain ⟨h3, h4⟩ := List.append_inj h2 rfl
      have vs := valid_24 (ha s (by simp))
      have vt := valid_24 (hb t (by simp))
      rw [ih (fun x hx => ha x (by simp [hx])) (fun x hx => hb x (by simp [hx])) h4, Prod.ext (kb_inj vs.1 vt.1 h1) (kb_inj vs.2 vt.2 h3)]
theorem nums_inj {xs ys : List Int} (hx : ∀ x ∈ xs, 0 ≤ x ∧ x < 256) (hy : ∀ x ∈ ys, 0 ≤ x ∧ x < 256) (h : strOfNums xs = strOfNums ys) : xs = ys := by
  have h1 : (xs.map fun n => UInt8.ofNat n.toNat) = ys.map fun n => UInt8.ofNat n.toNat := by rw [← strOfNums_data, ← strOfNums_data, h]
  clear h
  induction xs generalizing ys with
  | nil => cases ys with
    | nil => rfl
    | cons y ys => simp at h1
  | cons x xs ih => cases ys with
    | nil => simp at h1
    | cons y ys =>
      simp only [List.map_cons, List.cons.injEq] at h1
      have e : x = y := by
        have h2 := congrArg UInt8.toNat h1.1
        have a := hx x (by simp); have b := hy y (by simp)
        simp only [UInt8.toNat_ofNat'] at h2
        omega
      rw [e, ih (fun z hz => hx z (by simp [hz])) (fun z hz => hy z (by simp [hz])) h1.2]
theorem keyV_inj {a b : List Snd} (ha : ∀ s ∈ a, valid s = true) (hb : ∀ s ∈ b, valid s = true) : keyV a = keyV b ↔ a = b := by
  constructor
  · intro h
    unfold keyV at h
    injection h with h
    exact keyN_inj ha hb (nums_inj (keyN_small a) (keyN_small b) h)
  · rintro rfl; rfl
end Go.Sy
namespace Go.Proofs.YtpbbnmjkbfbelaaDoor
open Go Go.Sy Go.RowKit
theorem el107 : El Tryd.prog 107 5 1 1 := El.of (by kernel_rfl)
theorem c_key (A : WD) (la : A.w.length < 2 ^ 38) : RetP Tryd.prog n_analogy_key [A.v] (fun R => WordAt R A.p A.w) (keyV A.w) := by
  refine Fn.of S_analogy_key mx [.p A.p, .i A.w.length, .i A.cap] rfl rfl fun c hp => .chk (by ((try simp only [evE, liE, letsOf, letU, snd]); (try simp only [cmE])); omega) ?_
  refine .loop (fun n us mm => ∃ (j : Nat) (q : Option Addr) (cq : Nat) (xs : List Int), us = [.p q, .i xs.length, .i cq, .i j] ∧ n + j = A.w.length ∧ xs = keyN (A.w.take j) ∧ xs.length = 6 * j ∧ Row mm 5 1 q cq xs.length (xs.map (.int .u8))) A.w.length ⟨0, none, 0, [], rfl, rfl, rfl, rfl, Row.nil _ _ _⟩ ?_
  rintro n _ m _ ⟨j, q, cq, xs, rfl, hn, hxs, hlen, hr⟩
  refine .env (by (try simp only [liE, letsOf, letU, snd, List.append_nil]); rfl) (.ite (fun h1 => ?_) (fun h1 => ?_)) <;> ((try simp only [evE, liE, letsOf, letU, snd] at h1); (try simp only [cmE] at h1))
  · have hj : j < A.w.length := by omega
    refine .loadW A.w j hj (fun g => hp.mono g.R) (.env (by (try simp only [liE, letsOf, letU, snd, List.append_nil]); rfl) (.alloc fun b0 => ?_))
    refine .loop (fun n us mm => ∃ (k : Nat) (q : Option Addr) (cq : Nat) (ys : List Int), us = [.p q, .i ys.length, .i cq, .i k] ∧ n + k = 2 ∧ ys = xs ++ (([kb A.w[j].1, kb A.w[j].2] : List (List Int)).take k).flatten ∧ Row mm 5 1 q cq ys.length (ys.map (.int .u8))) 2 ⟨0, q, cq, xs, (by (simp only [evE, liE, letsOf, letU, snd, Sh.uss, Sh.us, atAddr, map_add0, List.append_nil]) <;> rfl), rfl, by simp, hr⟩ ?_
    clear hr
    rintro n1 _ m _ ⟨k, q, cq, ys, rfl, hn1, hys, hr⟩
    have hyl : ys.length ≤ 6 * j + 6 := by
      rw [hys, List.length_append, hlen]
      obtain rfl | rfl | rfl : k = 0 ∨ k = 1 ∨ k = 2 := by omega
      · simp
      · simp [kb_len]
      · simp [kb_len]
    refine .env (by (try simp only [liE, letsOf, letU, snd, List.append_nil]); rfl) (.ite (fun h2 => .chk (by ((try simp only [evE, liE, letsOf, letU, snd]); (try simp only [cmE])); omega) (.chk (by ((try simp only [evE, liE, letsOf, letU, snd] at h2); (try simp only [cmE] at h2)); ((try simp only [evE, liE, letsOf, letU, snd]); (try simp only [cmE])); omega) (.ite (fun h3 => .alloc fun b1 => ?_) (fun h3 => .ite (fun h4 => .alloc fun b1 => ?_) (fun h4 => ?_))))) (fun h2 => .again rfl ⟨n - 1, by omega, j + 1, q, cq, ys, ?_, by omega, ?_, ?_, hr⟩)) <;> ((try simp only [evE, liE, letsOf, letU, snd] at h2); (try simp only [cmE] at h2))
    · ((try simp only [evE, liE, letsOf, letU, snd] at h3); (try simp only [cmE] at h3))
      obtain rfl : k = 0 := by omega
      refine .append (n := ys.length) (kx := 3) (qx := some ⟨b1, 0, none⟩) (capx := 3) (news := (kb A.w[j].1).map (.int .u8)) el107 hr (fun g => g.cells (j := 1) rfl rfl rfl) rfl (fun v hv => by obtain ⟨x, _, rfl⟩ := List.mem_map.1 hv; rfl) (fun h => by cases h) (by simp [maxLen]; omega) (by omega) (fun q2 k2 m2 hr2 _ _ => ?_)
      refine .env (by (try simp only [liE, letsOf, letU, snd, List.append_nil]); rfl) (.again rfl ⟨n1 - 1, by omega, 1, q2, k2, ys ++ kb A.w[j].1, ?_, by omega, ?_, ?_⟩)
      · (simp only [evE, liE, letsOf, letU, snd, Sh.uss, Sh.us, atAddr, map_add0, List.append_nil]); simp only [List.length_append, kb_len]; rfl
      · rw [hys]; simp
      · rw [List.length_append, List.map_append]; exact hr2
    · ((try simp only [evE, liE, letsOf, letU, snd] at h4); (try simp only [cmE] at h4))
      obtain rfl : k = 1 := by omega
      refine .append (n := ys.length) (kx := 3) (qx := some ⟨b1, 0, none⟩) (capx := 3) (news := (kb A.w[j].2).map (.int .u8)) el107 hr (fun g => g.cells (j := 1) rfl rfl rfl) rfl (fun v hv => by obtain ⟨x, _, rfl⟩ := List.mem_map.1 hv; rfl) (fun h => by cases h) (by simp [maxLen]; omega) (by omega) (fun q2 k2 m2 hr2 _ _ => ?_)
      refine .env (by (try simp only [liE, letsOf, letU, snd, List.append_nil]); rfl) (.again rfl ⟨n1 - 1, by omega, 2, q2, k2, ys ++ kb A.w[j].2, ?_, by omega, ?_, ?_⟩)
      · (simp only [evE, liE, letsOf, letU, snd, Sh.uss, Sh.us, atAddr, map_add0, List.append_nil]); simp only [List.length_append, kb_len]; rfl
      · rw [hys]; simp
      · rw [List.length_append, List.map_append]; exact hr2
    · ((try simp only [evE, liE, letsOf, letU, snd] at h3); (try simp only [cmE] at h3)); ((try simp only [evE, liE, letsOf, letU, snd] at h4); (try simp only [cmE] at h4)); omega
    all_goals obtain rfl : k = 2 := by omega
    · (simp only [evE, liE, letsOf, letU, snd, Sh.uss, Sh.us, atAddr, map_add0, List.append_nil]); rw [add_i64 j (by omega)]
    · rw [hys, keyN_snoc hj, hxs]; simp
    · rw [hys, List.length_append, hlen]; simp [kb_len]; omega
  · rw [List.take_of_length_le (by omega)] at hxs
    refine .extp [.v (keyV A.w)] (uOk_of rfl) (fun g w hw => ?_) (.ret rfl rfl)
    have hown := hr.owns hw.hold.2
    show (do pure (Next.value (← convert 107 9 (SV.den [] [.p A.p, .i A.w.length, .i A.cap, .p q, .i xs.length, .i cq, .i j] (.sl 3 (.lit 0) (.var 4) (.var 5))))) : Sem Next).run Tryd.prog w = _
    rw [show (SV.sl 3 (.lit 0) (.var 4) (.var 5)).den [] [.p A.p, .i A.w.length, .i A.cap, .p q, .i xs.length, .i cq, .i j] = slv q xs.length cq from (by simp only [SV.den, IT.eval, atAddr, Env.ptr, Env.int]; simp; cases q <;> simp [slv, addr_zero])]
    rw [Sem.run_bind]
    rcases hr.2 with ⟨rfl, h0, rfl⟩ | ⟨gb, cur, rfl, hg, h3, h4, h5, h6⟩
    · have : xs = [] := List.length_eq_zero_iff.1 h0
      subst this
      have := run_convert_bytes_nil (P := Tryd.prog) w 107 5 Tryd.underlying107 Tryd.underlying5 0 0 9 Tryd.underlying9
      rw [show slv none ([] : List Int).length 0 = Value.slice none 0 0 from rfl, this]
      rw [show keyV A.w = .string ByteArray.empty by unfold keyV; rw [← hxs]; rfl]
      rfl
    · have := run_convert_bytes_arg (P := Tryd.prog) w 107 5 Tryd.underlying107 Tryd.underlying5 gb 0 xs.length cq xs rfl (fun i hi => by
        rw [Nat.zero_add]
        have := hw.hold.2 gb _ hg
        simp only [World.cell?, this]
        have h7 : (cur.toList.take (xs.length * 1))[i]? = some (.int .u8 (xs.getD i 0)) := by
          rw [h6, List.getElem?_map, List.getElem?_eq_getElem hi]; simp [List.getD, List.getElem?_eq_getElem hi]
        rw [List.getElem?_take_of_lt (by omega)] at h7
        simpa using h7) 9 Tryd.underlying9
      rw [show slv (some ⟨gb, 0, none⟩) xs.length cq = Value.slice (some ⟨gb, 0, none⟩) xs.length cq from rfl, this]
      rw [show keyV A.w = .string (strOfNums xs) by unfold keyV; rw [← hxs]]
      rfl
end Go.Proofs.YtpbbnmjkbfbelaaDoor
/- Chapter 30: the new word with most models: the plain law; MinFunc; Extend. -/
namespace Go.Sy
open Go Go.RowKit
theorem ordW_self (w : List Snd) : ordW w w = 0 := by
  induction w with
  | nil => rfl
  | cons s w ih => rw [ordW, if_neg (by simp [ordS_zero]), ih]
/-- w is better than b. -/
def better (N : List Snd → Nat) (w b : List Snd) : Prop := N w > N b ∨ (N w = N b ∧ ordW w b < 0)
instance (N : List Snd → Nat) (w b : List Snd) : Decidable (better N w b) := by unfold better; exact inferInstance
theorem better_irr {N : List Snd → Nat} (w : List Snd) : ¬ better N w w := by
  unfold better
  rw [ordW_self]; omega
def cmpE (N : List Snd → Nat) (a b : List Snd) : Int := if (N b : Int) - (N a : Int) ≠ 0 then (N b : Int) - (N a : Int) else ordW a b
theorem cmpE_neg {N : List Snd → Nat} {a b : List Snd} : cmpE N a b < 0 ↔ better N a b := by
  unfold cmpE better
  split
  · constructor
    · intro h; exact .inl (by omega)
    · rintro (h | ⟨h, _⟩) <;> omega
  · constructor
    · intro h; exact .inr ⟨by omega, h⟩
    · rintro (h | ⟨_, h⟩)
      · omega
      · exact h
def pstep (N : List Snd → Nat) : Option (List Snd) → List Snd → Option (List Snd)
  | none, w => some w
  | some b, w => if better N w b then some w else some b
def pst (N : List Snd → Nat) : Option (List Snd) → List Snd × Nat
  | none => ([], 0)
  | some b => (b, N b)
theorem stepE_pst {N : List Snd → Nat} {o : Option (List Snd)} {w : List Snd} (hl : w.length ≤ 32) (hN : 1 ≤ N w) : stepE N (pst N o) (some w) = pst N (pstep N o w) := by
  have e : stepE N (pst N o) (some w) = if N w > (pst N o).2 ∨ (N w = (pst N o).2 ∧ ordW w (pst N o).1 < 0) then (w, N w) else pst N o := if_neg (by omega)
  rw [e]
  cases o with
  | none => rw [if_pos (.inl (by show N w > 0; omega))]; rfl
  | some b =>
    show (if better N w b then (w, N w) else (b, N b)) = pst N (if better N w b then some w else some b)
    split <;> rfl
theorem pstep_twice {N : List Snd → Nat} (o : Option (List Snd)) (w : List Snd) : pstep N (pstep N o w) w = pstep N o w := by
  cases o with
  | none => exact if_neg (better_irr w)
  | some b =>
    by_cases h : better N w b
    · rw [show pstep N (some b) w = some w from if_pos h]; exact if_neg (better_irr w)
    · rw [show pstep N (some b) w = some b from if_neg h]; exact if_neg h
def short (w : List Snd) : Bool := decide (w.length ≤ 32)
def fndM (c : List Snd) (m : MD) : List (List Snd) := (resW m.a.w m.b.w c).filter short
def fnd (ks : List MD) (c : List Snd) : List (List Snd) := ks.flatMap (fndM c)
theorem stepE_none {N : List Snd → Nat} (s : List Snd × Nat) : stepE N s none = s := rfl
theorem stepE_long {N : List Snd → Nat} (s : List Snd × Nat) {w : List Snd} (h : w.length > 32) : stepE N s (some w) = s := if_pos h
theorem opts_fnd {N : List Snd → Nat} {c : List Snd} {m : MD} (hN : ∀ w ∈ fndM c m, 1 ≤ N w) (o : Option (List Snd)) : (optsM c m).foldl (stepE N) (pst N o) = pst N ((fndM c m).foldl (pstep N) o) := by
  have one : ∀ (o : Option (List Snd)) (w : List Snd), (w.length ≤ 32 → 1 ≤ N w) → stepE N (pst N o) (some w) = pst N (([w].filter short).foldl (pstep N) o) := fun o w hw => by
    by_cases h : w.length ≤ 32
    · rw [stepE_pst h (hw h)]; simp [short, h]
    · rw [stepE_long _ (by omega)]; simp [short, h]
  have hNw : ∀ w, w ∈ resW m.a.w m.b.w c → w.length ≤ 32 → 1 ≤ N w := fun w hw hl => hN w (List.mem_filter.2 ⟨hw, by simp [short, hl]⟩)
  unfold optsM fndM
  simp only [List.foldl_cons, List.foldl_nil]
  cases hs : solveW m.a.w m.b.w c with
  | none =>
    rw [stepE_none]
    cases hf : frontW m.a.w m.b.w c with
    | none => rw [stepE_none, show resW m.a.w m.b.w c = [] by unfold resW; rw [hs, hf]]; rfl
    | some y =>
      have hr : resW m.a.w m.b.w c = [y] := by unfold resW; rw [hs, hf]
      rw [one o y fun hl => hNw y (by rw [hr]; simp) hl, hr]
  | some x =>
    cases hf : frontW m.a.w m.b.w c with
    | none =>
      have hr : resW m.a.w m.b.w c = [x] := by unfold resW; rw [hs, hf]
      rw [stepE_none, one o x fun hl => hNw x (by rw [hr]; simp) hl, hr]
    | some y =>
      by_cases he : x = y
      · subst he
        have hr : resW m.a.w m.b.w c = [x] := by unfold resW; rw [hs, hf]; simp
        rw [one o x fun hl => hNw x (by rw [hr]; simp) hl, one _ x fun hl => hNw x (by rw [hr]; simp) hl, hr]
        by_cases h : x.length ≤ 32
        · simp only [List.filter_cons, short, h, decide_true, if_true, List.filter_nil, List.foldl_cons, List.foldl_nil, pstep_twice]
        · simp [short, h]
      · have hr : resW m.a.w m.b.w c = [x, y] := by unfold resW; rw [hs, hf]; simp [he]
        rw [one o x fun hl => hNw x (by rw [hr]; simp) hl, one _ y fun hl => hNw y (by rw [hr]; simp) hl, hr, ← List.foldl_append, ← List.filter_append]; rfl
theorem best_fnd {ms ks : List MD} {c : List Snd} (hN : ∀ w ∈ fnd ks c, 1 ≤ votes ms c w) : bestE ms ks c = pst (votes ms c) ((fnd ks c).foldl (pstep (votes ms c)) none) := by
  have key : ∀ (ks : List MD) (o : Option (List Snd)), (∀ w ∈ fnd ks c, 1 ≤ votes ms c w) → (ks.flatMap (optsM c)).foldl (stepE (votes ms c)) (pst (votes ms c) o) = pst (votes ms c) ((fnd ks c).foldl (pstep (votes ms c)) o) := fun ks => by
    induction ks with
    | nil => intro o _; rfl
    | cons k ks ih =>
      intro o h
      have e : fnd (k :: ks) c = fndM c k ++ fnd ks c := by simp [fnd]
      rw [e] at h ⊢
      rw [List.flatMap_cons, List.foldl_append, List.foldl_append, opts_fnd fun w hw => h w (List.mem_append_left _ hw), ih _ fun w hw => h w (List.mem_append_right _ hw)]
  exact key ks none hN
theorem resW_nodup (a b c : List Snd) : (resW a b c).Nodup := by
  unfold resW
  split
  · split
    · simp
    · rename_i h; simp [h]
  · simp
  · simp
  · simp
theorem nodup_count {α : Type} [BEq α] [LawfulBEq α] {l : List α} {a : α} (h : l.Nodup) (ha : a ∈ l) : l.count a = 1 := by
  induction l with
  | nil => simp at ha
  | cons x l ih =>
    have h' := List.nodup_cons.1 h
    rw [List.count_cons]
    by_cases e : x = a
    · subst e; rw [List.count_eq_zero_of_not_mem h'.1]; simp
    · rw [ih h'.2 ((List.mem_cons.1 ha).resolve_left fun h => e h.symm)]; simp [e]
theorem count_fnd {ks : List MD} {c w : List Snd} (hw : w.length ≤ 32) : (fnd ks c).count w = ks.countP (supM c w) := by
  induction ks with
  | nil => rfl
  | cons k ks ih =>
    have e : fnd (k :: ks) c = fndM c k ++ fnd ks c := by simp [fnd]
    have h1 : (fndM c k).count w = if supM c w k then 1 else 0 := by
      unfold fndM
      rw [List.count_filter (by simp [short, hw])]
      unfold supM supW
      by_cases h : w ∈ resW k.a.w k.b.w c
      · rw [nodup_count (resW_nodup _ _ _) h]; simp [h]
      · rw [List.count_eq_zero_of_not_mem h]; simp [h]
    rw [e, List.count_append, ih, h1, List.countP_cons]; omega
theorem fnd_votes {ms : List MD} {c w : List Snd} (h : w ∈ fnd ms c) : 1 ≤ votes ms c w := by
  have hl : w.length ≤ 32 := by
    obtain ⟨k, _, hk⟩ := List.mem_flatMap.1 h
    simpa [short] using (List.mem_filter.1 hk).2
  unfold votes
  rw [← count_fnd hl]
  exact List.count_pos_iff.2 h
theorem fnd_snoc {ks : List MD} {c : List Snd} {j : Nat} (hj : j < ks.length) : fnd (ks.take (j + 1)) c = fnd (ks.take j) c ++ fndM c ks[j] := by
  unfold fnd
  rw [List.take_succ_eq_append_getElem hj, List.flatMap_append]; simp
/-- The least, by a comparison. -/
def minD (cmp : List Snd → List Snd → Int) (h : WD) (t : List WD) : WD := t.foldl (fun b x => if cmp x.w b.w < 0 then x else b) h
theorem minD_pick {N : List Snd → Nat} (t : List WD) (h : WD) : some (minD (cmpE N) h t).w = (t.map (·.w)).foldl (pstep N) (some h.w) := by
  induction t generalizing h with
  | nil => rfl
  | cons x t ih =>
    unfold minD at ih ⊢
    rw [List.foldl_cons, List.map_cons, List.foldl_cons, ih]
    congr 1
    by_cases hb : better N x.w h.w
    · rw [if_pos (cmpE_neg.2 hb)]; exact (if_pos hb).symm
    · rw [if_neg fun hc => hb (cmpE_neg.1 hc)]; exact (if_neg hb).symm
theorem minD_mem {cmp : List Snd → List Snd → Int} (t : List WD) (h : WD) : minD cmp h t ∈ h :: t := by
  induction t generalizing h with
  | nil => simp [minD]
  | cons x t ih =>
    unfold minD at ih ⊢
    rw [List.foldl_cons]
    have := ih (if cmp x.w h.w < 0 then x else h)
    rcases List.mem_cons.1 this with e | e
    · rw [e]; split <;> simp
    · simp [e]
theorem minD_snoc {cmp : List Snd → List Snd → Int} {h : WD} {t : List WD} {i : Nat} (hi : i < t.length) : minD cmp h (t.take (i + 1)) = if cmp t[i].w (minD cmp h (t.take i)).w < 0 then t[i] else minD cmp h (t.take i) := by
  unfold minD
  rw [List.take_succ_eq_append_getElem hi, List.foldl_append]; rfl
theorem resW_sub {a b c w : List Snd} (h : w ∈ resW a b c) : ∀ s ∈ w, s ∈ b ∨ s ∈ c := by
  have h1 : ∀ {w}, solveW a b c = some w → ∀ s ∈ w, s ∈ b ∨ s ∈ c := fun {w} hs s hw => by
    unfold solveW applyE at hs
    split at hs
    · cases hs
      rcases List.mem_append.1 hw with h | h
      · exact .inr (List.mem_of_mem_take h)
      · exact .inl (List.mem_of_mem_drop h)
    · cases hs
  have h2 : ∀ {w}, frontW a b c = some w → ∀ s ∈ w, s ∈ b ∨ s ∈ c := fun {w} hs s hw => by
    unfold frontW applyF at hs
    split at hs
    · cases hs
      rcases List.mem_append.1 hw with h | h
      · exact .inl (List.mem_of_mem_take h)
      · exact .inr (List.mem_of_mem_drop h)
    · cases hs
  unfold resW at h
  split at h
  · rename_i x y hx hy
    split at h
    · simp at h; subst h; exact h1 hx
    · simp at h
      rcases h with rfl | rfl
      · exact h1 hx
      · exact h2 hy
  · rename_i x hx hy; simp at h; subst h; exact h1 hx
  · rename_i y hx hy; simp at h; subst h; exact h2 hy
  · simp at h
def VW (w : List Snd) : Prop := ∀ s ∈ w, valid s = true
theorem checkL_valid {l : List (List Snd)} (h : checkL l = 0) : ∀ w ∈ l, VW w := by
  induction l with
  | nil => simp
  | cons w l ih =>
    unfold checkL at h
    split at h
    · rename_i h2; exact absurd h h2
    · rename_i h2
      simp only [ne_eq, Decidable.not_not] at h2
      intro x hx
      rcases List.mem_cons.1 hx with rfl | hx
      · exact (checkW_zero h2).2
      · exact ih h x hx
theorem chkM_valid {ms : List MD} {l : List (List Snd)} (h : chkM ms l = 0) : (∀ x ∈ ms, VW x.a.w ∧ VW x.b.w) ∧ ∀ w ∈ l, VW w := by
  unfold chkM at h
  split at h
  · cases h
  · have := checkL_valid h
    refine ⟨fun x hx => ⟨this _ ?_, this _ ?_⟩, fun w hw => this _ (List.mem_append_right _ hw)⟩ <;> refine List.mem_append_left _ (List.mem_flatMap.2 ⟨x, hx, ?_⟩) <;> simp
end Go.Sy
namespace Go.Proofs.YtpbbnmjkbfbelaaDoor
open Go Go.Sy Go.RowKit
theorem c_minFunc (p : Option Addr) (cp : Nat) (h : WD) (t : List WD) (fv : Value) (hfv : fv.oneCell' = true) (cmp : List Snd → List Snd → Int) (pre : Mv → Prop) (hpre : ∀ R S : Mv, R.le S → pre R → pre S) (hl : t.length < 2 ^ 40) (hf : ∀ x ∈ h :: t, ∀ y ∈ h :: t, FnV Tryd.prog fv [x.v, y.v] pre fun v _ _ => v = .int .i64 (cmp x.w y.w)) :
    RetP Tryd.prog n_slices_MinFunc_____api_Sound___api_Sound_ [slv p (h :: t).length cp, fv] (fun R => Cells R p ((h :: t).map WD.v) ∧ pre R) (minD cmp h t).v := by
  refine Fn.of S_slices_MinFunc_____api_Sound___api_Sound_ mx [.p p, .i (h :: t).length, .i cp, .v fv] (by simp [Sh.eats, Sh.eat, eatV, eatP, eatS, hfv]) rfl fun c hp => .chk (by ((try simp only [evE, liE, letsOf, letU, snd]); (try simp only [cmE])); omega) ?_
  have hlen : (h :: t).length = t.length + 1 := rfl
  refine .join (fun us _ => us = []) (.no (by ((try simp only [evE, liE, letsOf, letU, snd]); (try simp only [cmE])); omega) (.again rfl rfl)) ?_
  rintro _ m _ rfl
  obtain ⟨b, o, hpe⟩ := (hp.1.some (i := 0) (by simp) : ∃ b o, p = some ⟨b, o, none⟩)
  subst hpe
  refine .env (by (try simp only [liE, letsOf, letU, snd, List.append_nil]); rfl) (.chk (by ((try simp only [evE, liE, letsOf, letU, snd]); (try simp only [cmE])); simp) (.loadS ((h :: t).map WD.v) 0 h.p h.w.length h.cap rfl rfl (fun g => hp.1.mono g.R) (.env (by (try simp only [liE, letsOf, letU, snd, List.append_nil]); rfl) ?_)))
  refine .loop (fun n us _ => ∃ (i : Nat) (x : WD), us = [.p x.p, .i x.w.length, .i x.cap, .i (i + 1 : Nat)] ∧ n + i = t.length ∧ x = minD cmp h (t.take i)) t.length ⟨0, h, (by (simp only [evE, liE, letsOf, letU, snd, Sh.uss, Sh.us, atAddr, map_add0, List.append_nil]) <;> rfl), rfl, rfl⟩ ?_
  rintro n _ m _ ⟨i, x, rfl, hn, hx⟩
  refine .env (by (try simp only [liE, letsOf, letU, snd, List.append_nil]); rfl) (.chk (by ((try simp only [evE, liE, letsOf, letU, snd]); (try simp only [cmE])); omega) (.ite (fun h1 => ?_) (fun h1 => .ret (v := x.v) rfl ?_))) <;> ((try simp only [evE, liE, letsOf, letU, snd] at h1); (try simp only [cmE] at h1))
  · have hi : i < t.length := by omega
    have hi1 : i + 1 < (h :: t).length := by omega
    have hti : (h :: t)[i + 1] = t[i] := rfl
    have hxm : x ∈ h :: t := by
      rw [hx]
      rcases List.mem_cons.1 (minD_mem (cmp := cmp) (t.take i) h) with e | e
      · rw [e]; simp
      · exact List.mem_cons_of_mem _ (List.mem_of_mem_take e)
    refine .loadWD (h :: t) (i + 1) hi1 (fun g => hp.1.mono g.R) (.env (by (try simp only [liE, letsOf, letU, snd, List.append_nil]); rfl) (.callvR (hf _ (List.getElem_mem hi1) x hxm) (fun g => hpre _ _ g.R hp.2) (fun m' _ => .env (by (try simp only [liE, letsOf, letU, snd, List.append_nil]); rfl) ?_)))
    · refine .join (fun us _ => us = [.p (minD cmp h (t.take (i + 1))).p, .i (minD cmp h (t.take (i + 1))).w.length, .i (minD cmp h (t.take (i + 1))).cap]) (.ite (fun h2 => ?_) (fun h2 => .again rfl ?_)) ?_
      · ((try simp only [evE, liE, letsOf, letU, snd] at h2); (try simp only [cmE] at h2))
        refine .loadWD (h :: t) (i + 1) hi1 (fun g => hp.1.mono g.R) (.env (by (try simp only [liE, letsOf, letU, snd, List.append_nil]); rfl) (.again rfl ?_))
        (simp only [evE, liE, letsOf, letU, snd, Sh.uss, Sh.us, atAddr, map_add0, List.append_nil])
        rw [hti] at h2
        rw [minD_snoc hi, ← hx, if_pos h2]; rfl
      · ((try simp only [evE, liE, letsOf, letU, snd] at h2); (try simp only [cmE] at h2))
        (simp only [evE, liE, letsOf, letU, snd, Sh.uss, Sh.us, atAddr, map_add0, List.append_nil])
        rw [hti] at h2
        rw [minD_snoc hi, ← hx, if_neg (by omega)]
      rintro _ _ _ rfl
      refine .env (by (try simp only [liE, letsOf, letU, snd, List.append_nil]); rfl) (.again rfl ⟨n - 1, by omega, i + 1, _, ?_, by omega, rfl⟩)
      (simp only [evE, liE, letsOf, letU, snd, Sh.uss, Sh.us, atAddr, map_add0, List.append_nil]); rw [add_i64 (i + 1) (by omega)]
  · rw [hx, List.take_of_length_le (by omega)]
end Go.Proofs.YtpbbnmjkbfbelaaDoor
/- Chapter 30: Extend. -/
namespace Go.Sy
open Go Go.RowKit
/-- What was found: a row of words, each in memory of the call's own; a map that counts them. -/
structure FoundI (mm : Mem) (bm : Nat) (q : Option Addr) (cq : Nat) (l : List WD) : Prop where
  map : ∃ es clock f, mm bm = some (.map es clock) ∧ MapOk .string es f ∧ ∀ w, VW w → (f (keyV w)).getD (.int .i64 0) = .int .i64 ((l.map (·.w)).count w : Nat)
  row : Row mm 22 1 q cq l.length (l.map WD.v)
  words : ∀ x ∈ l, RowW mm 31 x.p x.cap x.w
theorem FoundI.keep {mm mm' : Mem} {bm : Nat} {q : Option Addr} {cq : Nat} {l : List WD} (h : FoundI mm bm q cq l) (hk : ∀ b, mm b ≠ none → mm' b = mm b) : FoundI mm' bm q cq l := by
  obtain ⟨⟨es, clock, f, h1, h2, h3⟩, h4, h5⟩ := h
  exact ⟨⟨es, clock, f, (hk bm (by rw [h1]; simp)).trans h1, h2, h3⟩, h4.keep fun g _ hg => hk g hg, fun x hx => (h5 x hx).keep hk⟩
theorem RowW.keepT {m m' : Mem} {et : TypeId} {q : Option Addr} {cap : Nat} {w : List Snd} (h : RowW m et q cap w) (hk : ∀ b cur, m b = some (.cells cur et (0, 0)) → m' b = m b) : RowW m' et q cap w := ⟨fun hw => by
  have hr := h.row hw
  refine ⟨hr.1, ?_⟩
  rcases hr.2 with h2 | ⟨g, cur, h1, h2, h3⟩
  · exact .inl h2
  · exact .inr ⟨g, cur, h1, (hk g cur h2).trans h2, h3⟩, h.nil, h.le⟩
theorem Row.at_cells {m : Mem} {e : TypeId} {size : Nat} {q : Option Addr} {cap n b o : Nat} {xs : List Value} (h : Row m e size q cap n xs) (hq : q = some ⟨b, o, none⟩) : ∃ cur, m b = some (.cells cur e (0, 0)) := by
  rcases h.2 with ⟨rfl, _⟩ | ⟨g, cur, rfl, hg, _⟩
  · cases hq
  · cases hq; exact ⟨cur, hg⟩
def Ext1At (bm a1 : Nat) (es : Array MapEntry) (l : List WD) (R : Mv) : Prop := Cells R (some ⟨a1, 0, none⟩) [.map (some bm)] ∧ R.m bm = some es ∧ ∀ x ∈ l, WordAt R x.p x.w
end Go.Sy
namespace Go.Proofs.YtpbbnmjkbfbelaaDoor
open Go Go.Sy Go.RowKit
theorem z3 (w : World) : (zeroValue 3).run Tryd.prog w = .ok (.int .i64 0) w := by
  obtain ⟨i, h1, h2⟩ : ∃ i, Tryd.prog.info? 3 = some i ∧ i.zero = some (.int .i64 0) := by
    have : ((Tryd.prog.info? 3).bind (·.zero)) = some (.int .i64 0) := by kernel_rfl
    cases h : Tryd.prog.info? 3 with
    | none => rw [h] at this; cases this
    | some i => rw [h] at this; exact ⟨i, rfl, this⟩
  exact run_zeroValue' w h1 h2
theorem el85 : El Tryd.prog 85 22 1 24 := El.of (by kernel_rfl)
theorem c_ext1 (bm a1 : Nat) (es : Array MapEntry) (f : Value → Option Value) (M : MapOk .string es f) (N : List Snd → Nat) (l : List WD) (hN : ∀ x ∈ l, (f (keyV x.w)).getD (.int .i64 0) = .int .i64 (N x.w : Nat) ∧ N x.w < 2 ^ 40 ∧ x.w.length ≤ 32) (A B : WD) (hA : A ∈ l) (hB : B ∈ l) :
    FnM Tryd.prog n_analogy_Extend_1 ([A.v, B.v] ++ [.pointer (some ⟨a1, 0, none⟩)]) (Ext1At bm a1 es l) fun v _ _ => v = .int .i64 (cmpE N A.w B.w) := by
  refine Fn.of S_analogy_Extend_1 mx [.p A.p, .i A.w.length, .i A.cap, .p B.p, .i B.w.length, .i B.cap, .p (some ⟨a1, 0, none⟩)] rfl rfl fun c hp => ?_
  obtain ⟨h0, h1, h2⟩ := hp
  obtain ⟨nA, uA, lA⟩ := hN A hA
  obtain ⟨nB, uB, lB⟩ := hN B hB
  refine .load1 (.map (some bm)) (some ⟨a1, 0, none⟩) [.map (some bm)] 0 rfl rfl (fun g => h0.mono g.R) rfl (.env (by (try simp only [liE, letsOf, letU, snd, List.append_nil]); rfl) (.load1 (.map (some bm)) (some ⟨a1, 0, none⟩) [.map (some bm)] 0 rfl rfl (fun g => h0.mono g.R) rfl (.env (by (try simp only [liE, letsOf, letU, snd, List.append_nil]); rfl) ?_)))
  refine .callR [.v (keyV B.w)] (c_key B (by omega)) rfl rfl rfl rfl (fun g => (h2 B hB).mono g.R) (.env (by (try simp only [liE, letsOf, letU, snd, List.append_nil]); rfl) ?_)
  refine .lookupV (.int .i64 0) (keyV B.w) es f bm [.i (N B.w : Nat)] Tryd.underlying84 Tryd.underlying9 z3 rfl trivial (fun g => g.R.m _ _ h1) M (uOk_of rfl) (nB.trans rfl) (.env (by (try simp only [liE, letsOf, letU, snd, List.append_nil]); rfl) ?_)
  refine .callR [.v (keyV A.w)] (c_key A (by omega)) rfl rfl rfl rfl (fun g => (h2 A hA).mono g.R) (.env (by (try simp only [liE, letsOf, letU, snd, List.append_nil]); rfl) ?_)
  refine .lookupV (.int .i64 0) (keyV A.w) es f bm [.i (N A.w : Nat)] Tryd.underlying84 Tryd.underlying9 z3 rfl trivial (fun g => g.R.m _ _ h1) M (uOk_of rfl) (nA.trans rfl) (.env (by (try simp only [liE, letsOf, letU, snd, List.append_nil]); rfl) ?_)
  have es : ar .sub .i64 (N B.w : Int) (N A.w : Int) = (N B.w : Int) - (N A.w : Int) := subI (by omega) (by omega)
  refine .ite (fun h3 => .ret rfl ?_) (fun h3 => .callV (c_wordOrder A.p B.p A.cap B.cap A.w B.w (by omega) (by omega)) (fun g => ⟨(h2 A hA).mono g.R, (h2 B hB).mono g.R⟩) (.ret rfl ?_))
  · replace h3 : cm .neq (ar .sub .i64 (N B.w : Int) (N A.w : Int)) 0 = true := h3
    rw [es] at h3
    simp only [cm, bne_iff_ne] at h3
    show Value.int .i64 (ar .sub .i64 (N B.w : Int) (N A.w : Int)) = _
    rw [es]; unfold cmpE; rw [if_pos h3]
  · replace h3 : cm .neq (ar .sub .i64 (N B.w : Int) (N A.w : Int)) 0 = false := h3
    rw [es] at h3
    simp only [cm, bne_eq_false_iff_eq] at h3
    unfold cmpE; rw [if_neg (by simp [h3])]
    rfl
set_option maxHeartbeats 1000000 in
theorem c_Extend (p : Option Addr) (cp : Nat) (ms : List MD) (C : WD) (hm : ModelsOk ms) (hc : Wok C.w) (oc : C.ok) (hl : ms.length < 2 ^ 62) : FnM Tryd.prog n_analogy_Extend [slv p ms.length cp, C.v] (fun R => ModelsAt R p ms ∧ WordAt R C.p C.w ∧ VarsOk R) fun v mq _ => ExtR 31 mq v (extW ms C.w) := by
  refine FnM.of S_analogy_Extend mx [.p p, .i ms.length, .i cp, .p C.p, .i C.w.length, .i C.cap] rfl rfl fun c hp => .alloc fun a0 => ?_
  obtain ⟨hM, hC, hV⟩ := hp
  refine .callV (c_check p cp ms (some ⟨a0, 0, none⟩) 1 [C] hm (by simp [hc]) (by simp)) (fun g => ⟨hM.mono g.R, g.cells (j := 0) rfl rfl rfl, ?_⟩) (.env (by (try simp only [liE, letsOf, letU, snd, List.append_nil]); rfl) (.ite (fun h1 => .ret rfl ?_) (fun h1 => ?_)))
  · simp only [List.mem_cons, List.not_mem_nil, or_false]
    rintro x rfl
    exact hC.mono g.R
  · ((try simp only [evE, liE, letsOf, letU, snd] at h1); (try simp only [cmE] at h1))
    replace h1 : chkM ms [C.w] ≠ 0 := h1
    have : extW ms C.w = ([], 0, chkM ms [C.w]) := by unfold extW; rw [if_pos h1]
    rw [this]; exact ⟨none, 0, rfl, .of (Row.nil _ _ _)⟩
  ((try simp only [evE, liE, letsOf, letU, snd] at h1); (try simp only [cmE] at h1))
  replace h1 : chkM ms [C.w] = 0 := h1
  rw [show chkM ms (List.map (fun x : WD => x.w) [C]) = 0 from h1]
  obtain ⟨l0, l1, l2⟩ := chkM_all h1
  obtain ⟨v1, v2⟩ := chkM_valid h1
  simp only [List.mem_cons, List.not_mem_nil, or_false, forall_eq] at l2 v2
  have he : extW ms C.w = (if (bestE ms ms C.w).2 = 0 then ([], 0, 5) else ((bestE ms ms C.w).1, (((bestE ms ms C.w).2 : Nat) : Int), 0) : List Snd × Int × Int) := by unfold extW; rw [if_neg (by simp [h1])]
  rw [he, best_fnd fun w hw => fnd_votes hw]
  clear he
  refine .mkMap fun bm hbm hbL => .env (by (try simp only [liE, letsOf, letU, snd, List.append_nil]); rfl) (.alloc fun a1 => .alloc fun a2 => .chk (by ((try simp only [evE, liE, letsOf, letU, snd]); (try simp only [cmE])); omega) ?_)
  refine .loop (fun n us mm => ∃ (j : Nat) (q : Option Addr) (cq : Nat) (l : List WD), us = [.i j, .p q, .i l.length, .i cq] ∧ n + j = ms.length ∧ l.map (·.w) = fnd (ms.take j) C.w ∧ l.length ≤ 2 * j ∧ FoundI mm bm q cq l) ms.length
    ⟨0, none, 0, [], rfl, rfl, rfl, by simp, ⟨#[], 0, fun _ => none, Mem.upd_same .., .empty _, fun w _ => by simp⟩, Row.nil _ _ _, by simp⟩ ?_
  rintro n _ m _ ⟨j, q, cq, l, rfl, hn, hlw, hll, hF⟩
  clear hbm hbL
  refine .env (by (try simp only [liE, letsOf, letU, snd, List.append_nil]); rfl) (.ite (fun h2 => ?_) (fun h2 => .chk (by ((try simp only [evE, liE, letsOf, letU, snd]); (try simp only [cmE])); omega) (.ite (fun h3 => .ret rfl ?_) (fun h3 => ?_)))) <;> ((try simp only [evE, liE, letsOf, letU, snd] at h2); (try simp only [cmE] at h2))
  · have hj : j < ms.length := by omega
    have hok := hm _ (List.getElem_mem hj)
    have hat := hM.2 _ (List.getElem_mem hj)
    have hle := l1 _ (List.getElem_mem hj)
    have hva := v1 _ (List.getElem_mem hj)
    refine .loadMD ms j hj (fun g => hM.1.mono g.R) (.env (by (try simp only [liE, letsOf, letU, snd, List.append_nil]); rfl) (.alloc fun a3 => .callM (c_results ms[j].a ms[j].b C) rfl rfl (fun _ => trivial) ?_))
    rintro v mq hf ⟨b0, b1, rfl, rfl, h01⟩
    refine ⟨[.v (.func (.func n_analogy_results_1) #[] #[.pointer (some ⟨b0, 0, none⟩), .pointer (some ⟨b1, 0, none⟩)])], uOk_of rfl, rfl, .env (by (try simp only [liE, letsOf, letU, snd, List.append_nil]); rfl) ?_⟩
    have hrl : (resW ms[j].a.w ms[j].b.w C.w).length ≤ 2 := by
      unfold resW
      split
      · split <;> simp
      · simp
      · simp
      · simp
    refine .rangeX n_analogy_results_1 #[.pointer (some ⟨b0, 0, none⟩), .pointer (some ⟨b1, 0, none⟩)] _ (ResX (resW ms[j].a.w ms[j].b.w C.w)) (fun w => c.R.le (Mv.of w)) (box2 b0 b1 ms[j].a ms[j].b C) m
      (fun k us mm => ∃ (q : Option Addr) (cq : Nat) (l' : List WD), us = [.p q, .i l'.length, .i cq] ∧ l'.map (·.w) = fnd (ms.take j) C.w ++ ((resW ms[j].a.w ms[j].b.w C.w).take k).filter short ∧ l'.length ≤ 2 * j + k ∧ FoundI mm bm q cq l') (fun _ _ _ => False)
      rfl (by kernel_rfl) rfl (fun b hb => ?_) (fun k ux m1 hx => ?_) (it_results ms[j].a ms[j].b C hok.2.2.1 hok.2.2.2 oc (by omega) (by omega) (by omega) b0 b1 h01 c.R ⟨hat.1, hat.2, hC, hV⟩) ⟨q, cq, l, (by (simp only [evE, liE, letsOf, letU, snd, Sh.uss, Sh.us, atAddr, map_add0, List.append_nil]) <;> rfl), by simpa using hlw, by omega, hF⟩ (fun k us m' w _ hw => ⟨fun b o v hv => c.ok w b o v hw.hold.1 hv, fun b es hv => c.okm w b es hw.hold.1 hv⟩) ?_ ?_ (fun _ _ _ _ _ h => h.elim)
    · cases hb' : box2 b0 b1 ms[j].a ms[j].b C b with
      | none => rfl
      | some o => exact absurd (hf b (by rw [hb']; simp)).1 hb
    · obtain ⟨q, cq, w, _, rfl, _⟩ := hx
      exact usOk_of rfl
    · rintro k us ux m' m1 _ ⟨qw, cw, w, hw, rfl, hr⟩ ⟨q, cq, l', rfl, hl', hll', hF'⟩ hdj
      have hr1 := hr.joinR (m := m') fun b hb => by
        cases h : m' b with
        | none => rfl
        | some o => exact absurd (hdj b (by rw [h]; simp)) hb
      have hk : k < (resW ms[j].a.w ms[j].b.w C.w).length := by
        rcases Nat.lt_or_ge k (resW ms[j].a.w ms[j].b.w C.w).length with h | h
        · exact h
        · rw [List.getElem?_eq_none h] at hw; cases hw
      have hwk : (resW ms[j].a.w ms[j].b.w C.w)[k] = w := by rw [List.getElem?_eq_getElem hk] at hw; exact Option.some.inj hw
      have hmem : w ∈ resW ms[j].a.w ms[j].b.w C.w := hwk ▸ List.getElem_mem hk
      have hlw' := resW_len hmem
      have hvw : VW w := fun s hs => (resW_sub hmem s hs).elim (hva.2 s) (v2 s)
      have hsub : ∀ b o, m1 b = some o → m'.join m1 b = some o := fun b o hb => hr.join_sub (m := m') (m' := m') b o hb hdj
      have hF1 := hF'.keep (mm' := m'.join m1) fun b hb => Mem.join_old hb
      have hold : ∀ b, m' b ≠ none → m1 b = none := hdj
      obtain ⟨⟨es0, clock0, f0, hes0, _⟩, hrow0, _⟩ := hF'
      have hbm1 : m1 bm = none := hdj bm (by rw [hes0]; simp)
      refine .env (by (try simp only [liE, letsOf, letU, snd, List.append_nil]); rfl) (.join (fun us mm => (∀ b o, m1 b = some o → mm b = some o) ∧ ∃ (q : Option Addr) (cq : Nat) (l' : List WD), us = [.p q, .i l'.length, .i cq] ∧ l'.map (·.w) = fnd (ms.take j) C.w ++ ((resW ms[j].a.w ms[j].b.w C.w).take (k + 1)).filter short ∧ l'.length ≤ 2 * j + (k + 1) ∧ FoundI mm bm q cq l') (.chk (by ((try simp only [evE, liE, letsOf, letU, snd]); (try simp only [cmE])); omega) (.ite (fun h3 => .again rfl ⟨hsub, q, cq, l', (by (simp only [evE, liE, letsOf, letU, snd, Sh.uss, Sh.us, atAddr, map_add0, List.append_nil]) <;> rfl), ?_, by omega, hF1⟩) (fun h3 => ?_))) ?_) <;> (try ((try simp only [evE, liE, letsOf, letU, snd] at h3); (try simp only [cmE] at h3)))
      · rw [hl', List.take_succ_eq_append_getElem hk, hwk, List.filter_append]
        have : short w = false := by simp [short]; omega
        simp [this]
      · obtain ⟨⟨es, clock, f, hes, hMk, hcnt⟩, hrow, hwords⟩ := hF1
        have hsw : short w = true := by simp [short]; omega
        have hcl : (l'.map (·.w)).count w ≤ l'.length := by have := List.count_le_length (a := w) (l := l'.map (·.w)); simpa using this
        refine .callR [.v (keyV w)] (c_key ⟨qw, cw, w⟩ (by show w.length < _; omega)) rfl rfl rfl rfl (fun g => hr1.reads g) (.env (by (try simp only [liE, letsOf, letU, snd, List.append_nil]); rfl) ?_)
        refine .lookupV (.int .i64 0) (keyV w) es f bm [.i ((l'.map (·.w)).count w : Nat)] Tryd.underlying84 Tryd.underlying9 z3 rfl trivial (fun g => vw_map g hes) hMk (uOk_of rfl) ((hcnt w hvw).trans rfl) (.env (by (try simp only [liE, letsOf, letU, snd, List.append_nil]); rfl) ?_)
        refine .updateV (keyV w) (.int .i64 ((l'.map (·.w)).count w + 1 : Nat)) es f bm clock Tryd.underlying84 Tryd.underlying9 rfl trivial ?_ hes hMk (fun es' clock' hM' => ?_)
        · show Value.int .i64 (ar .add .i64 (((l'.map (·.w)).count w : Nat) : Int) 1) = _
          rw [add_i64 _ (by omega)]
        have hcells : ∀ b cur e, (m'.join m1) b = some (.cells cur e (0, 0)) → ((m'.join m1).upd bm (.map es' clock')) b = (m'.join m1) b := fun b cur e hb => Mem.upd_other _ _ fun h => by rw [h, hes] at hb; cases hb
        have hrow2 : Row ((m'.join m1).upd bm (.map es' clock')) 22 1 q cq l'.length (l'.map WD.v) := hrow.keep fun g hq _ => by
          obtain ⟨cur, hcur⟩ := hrow.at_cells hq
          exact hcells g cur 22 hcur
        have hwords2 : ∀ x ∈ l', RowW ((m'.join m1).upd bm (.map es' clock')) 31 x.p x.cap x.w := fun x hx => (hwords x hx).keepT fun b cur hb => hcells b cur 31 hb
        have hr2 : RowW ((m'.join m1).upd bm (.map es' clock')) 31 qw cw w := hr1.keepT fun b cur hb => hcells b cur 31 hb
        have hsub2 : ∀ b o, m1 b = some o → ((m'.join m1).upd bm (.map es' clock')) b = some o := fun b o hb => (Mem.upd_other _ _ fun h => by rw [h, hbm1] at hb; cases hb).trans (hsub b o hb)
        have hbm2 := Mem.upd_same (m'.join m1) bm (.map es' clock')
        have hqm : ∀ b o, q = some ⟨b, o, none⟩ → m1 b = none := fun b o hq => by
          obtain ⟨cur, hcur⟩ := hrow0.at_cells hq
          exact hdj b (by rw [hcur]; simp)
        generalize (m'.join m1).upd bm (.map es' clock') = m2 at *
        clear hes hcells hrow hwords hr1 hMk hsub hes0 hrow0
        refine .alloc fun a4 => .append (n := l'.length) (kx := 1) (qx := some ⟨a4, 0, none⟩) (capx := 1) (news := [slv qw w.length cw]) el85 hrow2 (fun g => g.cells (j := 4) rfl rfl rfl) rfl (by simp; rfl) (fun h => by cases h) (by simp [maxLen]; omega) (by omega) (fun q3 k3 m3 hr3 hk3 _ => ?_)
        have hk31 : ∀ b cur, m2 b = some (.cells cur 31 (0, 0)) → m3 b = m2 b := fun b cur hb => hk3 b (fun ⟨o, ho⟩ => by
          obtain ⟨cur', hcur'⟩ := hrow2.at_cells ho
          rw [hcur'] at hb; cases hb) (by rw [hb]; simp)
        refine .env (by (try simp only [liE, letsOf, letU, snd, List.append_nil]); rfl) (.again rfl ⟨fun b o hb => ?_, q3, k3, l' ++ [⟨qw, cw, w⟩], ?_, ?_, by simp; omega, ⟨es', clock', updF f (keyV w) (.int .i64 ((l'.map (·.w)).count w + 1 : Nat)), ?_, hM', fun u hu => ?_⟩, ?_, fun x hx => ?_⟩)
        · refine (hk3 b (fun ⟨o', ho⟩ => ?_) (by rw [hsub2 b o hb]; simp)).trans (hsub2 b o hb)
          rw [hqm b o' ho] at hb; cases hb
        · (simp only [evE, liE, letsOf, letU, snd, Sh.uss, Sh.us, atAddr, map_add0, List.append_nil]); simp only [List.length_append, List.length_cons, List.length_nil]
        · rw [List.map_append, hl', List.take_succ_eq_append_getElem hk, hwk, List.filter_append]
          simp [hsw]
        · refine (hk3 bm (fun ⟨o', ho⟩ => ?_) (by rw [hbm2]; simp)).trans hbm2
          obtain ⟨cur', hcur'⟩ := hrow2.at_cells ho
          rw [hcur'] at hbm2; cases hbm2
        · rw [List.map_append, List.count_append]
          by_cases e : u = w
          · subst e; rw [updF_same]; simp
          · rw [updF_other f _ fun h => e ((keyV_inj hu hvw).1 h), hcnt u hu]
            have : List.count u (List.map (fun x : WD => x.w) [⟨qw, cw, w⟩]) = 0 := List.count_eq_zero_of_not_mem (by simpa using e)
            rw [this]; rfl
        · rw [List.length_append, List.map_append]; exact hr3
        · rcases List.mem_append.1 hx with hx | hx
          · exact (hwords2 x hx).keepT hk31
          · simp at hx; subst hx; exact hr2.keepT hk31
      rintro _ m2 _ ⟨hsub2, q2, cq2, l2, rfl, hl2, hll2, hF2⟩
      exact .env (by (try simp only [liE, letsOf, letU, snd, List.append_nil]); rfl) (.leave ⟨hsub2, .inl ⟨rfl, q2, cq2, l2, (by (simp only [evE, liE, letsOf, letU, snd, Sh.uss, Sh.us, atAddr, map_add0, List.append_nil]) <;> rfl), hl2, hll2, hF2⟩⟩)
    · rintro us m' _ ⟨q2, cq2, l2, rfl, hl2, hll2, hF2⟩
      refine .env (by (try simp only [liE, letsOf, letU, snd, List.append_nil]); rfl) (.again rfl ⟨n - 1, by omega, j + 1, q2, cq2, l2, ?_, by omega, ?_, by omega, hF2⟩)
      · (simp only [evE, liE, letsOf, letU, snd, Sh.uss, Sh.us, atAddr, map_add0, List.append_nil]); rw [add_i64 j (by omega)]
      · rw [hl2, List.take_of_length_le (Nat.le_refl _), fnd_snoc hj]; rfl
  · ((try simp only [evE, liE, letsOf, letU, snd] at h3); (try simp only [cmE] at h3))
    rw [List.take_of_length_le (by omega)] at hlw
    have : l = [] := List.length_eq_zero_iff.1 (by omega)
    subst this
    rw [← hlw]
    exact ⟨none, 0, rfl, .of (Row.nil _ _ _)⟩
  · ((try simp only [evE, liE, letsOf, letU, snd] at h3); (try simp only [cmE] at h3))
    rw [List.take_of_length_le (by omega)] at hlw
    obtain ⟨⟨es, clock, f, hes, hMk, hcnt⟩, hrow, hwords⟩ := hF
    have hmem : ∀ x ∈ l, x.w ∈ fnd ms C.w := fun x hx => by rw [← hlw]; exact List.mem_map_of_mem hx
    have hsh : ∀ x ∈ l, x.w.length ≤ 32 := fun x hx => by
      obtain ⟨k, _, hk⟩ := List.mem_flatMap.1 (hmem x hx)
      simpa [short] using (List.mem_filter.1 hk).2
    have hvw : ∀ x ∈ l, VW x.w := fun x hx s hs => by
      obtain ⟨k, hk, hk2⟩ := List.mem_flatMap.1 (hmem x hx)
      exact (resW_sub (List.mem_filter.1 hk2).1 s hs).elim ((v1 k hk).2 s) (v2 s)
    have hN : ∀ x ∈ l, (f (keyV x.w)).getD (.int .i64 0) = .int .i64 (votes ms C.w x.w : Nat) ∧ votes ms C.w x.w < 2 ^ 40 ∧ x.w.length ≤ 32 := fun x hx => by
      refine ⟨?_, ?_, hsh x hx⟩
      · rw [hcnt _ (hvw x hx), hlw, count_fnd (hsh x hx)]; rfl
      · have := List.countP_le_length (p := supM C.w x.w) (l := ms)
        unfold votes; omega
    rcases l with _ | ⟨h, t⟩
    · simp at h3
    have hbm := minD_mem (cmp := cmpE (votes ms C.w)) t h
    have hpk : (fnd ms C.w).foldl (pstep (votes ms C.w)) none = some (minD (cmpE (votes ms C.w)) h t).w := by
      rw [← hlw, List.map_cons, List.foldl_cons, minD_pick]; rfl
    have hpos := fnd_votes (hmem _ hbm)
    rw [hpk]
    have hcm := fun x hx y hy => FnV.of (hg := (by kernel_rfl : goodFn Tryd.prog n_analogy_Extend_1 = true)) (cap := [.pointer (some ⟨a1, 0, none⟩)]) (c_ext1 bm a1 es f hMk (votes ms C.w) (h :: t) hN x y hx hy)
    have hmin := c_minFunc q cq h t (.func (.func n_analogy_Extend_1) #[] #[.pointer (some ⟨a1, 0, none⟩)]) rfl (cmpE (votes ms C.w)) (Ext1At bm a1 es (h :: t)) (fun R S hRS ⟨q1, q2, q3⟩ => ⟨q1.mono hRS, hRS.m _ _ q2, fun x hx => (q3 x hx).mono hRS⟩) (by simp only [List.length_cons] at hll; omega) fun x hx y hy => hcm x hx y hy
    generalize minD (cmpE (votes ms C.w)) h t = B at *
    refine .callR [.p B.p, .i B.w.length, .i B.cap] hmin rfl rfl (slv_fresh _ _ _ _ _) rfl (fun g => ⟨hrow.reads g, g.cells (j := 1) rfl rfl rfl, vw_map g hes, fun x hx => (hwords x hx).reads g⟩) (.env (by (try simp only [liE, letsOf, letU, snd, List.append_nil]); rfl) ?_)
    obtain ⟨nB, _, lB⟩ := hN B hbm
    refine .callR [.v (keyV B.w)] (c_key B (by omega)) rfl rfl rfl rfl (fun g => (hwords B hbm).reads g) (.env (by (try simp only [liE, letsOf, letU, snd, List.append_nil]); rfl) ?_)
    refine .lookupV (.int .i64 0) (keyV B.w) es f bm [.i (votes ms C.w B.w : Nat)] Tryd.underlying84 Tryd.underlying9 z3 rfl trivial (fun g => vw_map g hes) hMk (uOk_of rfl) (nB.trans rfl) (.env (by (try simp only [liE, letsOf, letU, snd, List.append_nil]); rfl) (.ret rfl ?_))
    show ExtR 31 m _ (if votes ms C.w B.w = 0 then ([], 0, 5) else (B.w, ((votes ms C.w B.w : Nat) : Int), 0))
    rw [if_neg (by omega)]
    exact ⟨B.p, B.cap, rfl, hwords B hbm⟩
end Go.Proofs.YtpbbnmjkbfbelaaDoor
/- Chapter 30: paradigms in memory; their checks. -/
namespace Go.Sy
open Go Go.RowKit
/-- A form; a row of forms. -/
structure FD where
  has : Bool
  w : WD
structure LD where
  p : Option Addr
  cap : Nat
  fs : List FD
def LD.v (r : LD) : Value := slv r.p r.fs.length r.cap
def fcells (l : List FD) : List Value := l.flatMap fun x => [.bool x.has, x.w.v]
def FormsAt (R : Mv) (q : Option Addr) (l : List FD) : Prop := Cells R q (fcells l) ∧ ∀ x ∈ l, WordAt R x.w.p x.w.w
theorem FormsAt.mono {R S : Mv} {q : Option Addr} {l : List FD} (h : FormsAt R q l) (hle : R.le S) : FormsAt S q l := ⟨h.1.mono hle, fun x hx => (h.2 x hx).mono hle⟩
def TableAt (R : Mv) (q : Option Addr) (t : List LD) : Prop := Cells R q (t.map LD.v) ∧ ∀ r ∈ t, FormsAt R r.p r.fs
theorem TableAt.mono {R S : Mv} {q : Option Addr} {t : List LD} (h : TableAt R q t) (hle : R.le S) : TableAt S q t := ⟨h.1.mono hle, fun r hr => (h.2 r hr).mono hle⟩
theorem fcells_len (l : List FD) : (fcells l).length = l.length * 2 := by
  induction l with
  | nil => rfl
  | cons s w ih => simp only [fcells, List.flatMap_cons, List.length_append, List.length_cons] at *; rw [ih]; simp; omega
theorem fcells_at (w : List FD) (j : Nat) (h : j < w.length) : (fcells w)[j * 2]? = some (.bool w[j].has) ∧ (fcells w)[j * 2 + 1]? = some w[j].w.v := by
  induction w generalizing j with
  | nil => simp at h
  | cons s w ih =>
    cases j with
    | zero => exact ⟨rfl, rfl⟩
    | succ j =>
      have := ih j (by simpa using h)
      simp only [fcells, List.flatMap_cons, List.cons_append, List.nil_append] at *
      rw [show (j + 1) * 2 = j * 2 + 2 by omega, show j * 2 + 2 + 1 = (j * 2 + 1) + 2 by omega]
      simpa using this
section
variable {P : Program} {c : Cx} {L : List Nat} {ρ : Env} {blks : List Blk} {m : Mem} {R : Value → HW → Prop} {Dn : Nat → List U → HW → Prop} {A : List (List U → HW → Prop)}
theorem DenM.loadLD {i : Nat} {I len : IT} {k : Tree} (t : List LD) (j : Nat) (hj : j < t.length) (hw : Good c L m → Cells (vw c L ρ blks m) (ρ.ptr i) (t.map LD.v)) (hk : DenM P R Dn k L (ρ ++ [.p t[j].p, .i t[j].fs.length, .i t[j].cap]) c m A) (hI : I.eval ρ = (j : Int) := by rfl) (hn : len.eval ρ = (t.length : Int) := by rfl) :
    DenM P R Dn (.chk (.pick (.cmp .geq I (.lit 0)) (.pick (.cmp .lss I len) (.some i) (.lit false)) (.lit false)) (.load i (.off I 1 (.lit 0)) [.sl] blks k)) L ρ c m A :=
  .loadSl (t.map LD.v) j t.length _ _ _ hj (by simp [hj, LD.v]) hw hk hI hn
theorem form_at (ρ : Env) (L : List Nat) (x : FD) : SV.dens L (ρ ++ [.b x.has, .p x.w.p, .i x.w.w.length, .i x.w.cap]) (Sh.freshs [.bool, .sl] ρ.length).1 = [.bool x.has, x.w.v] := by
  have e1 := getElem_env ρ [.b x.has, .p x.w.p, .i x.w.w.length, .i x.w.cap] 0
  rw [Nat.add_zero] at e1
  have e2 := sl_at (ρ ++ [.b x.has]) L x.w.p x.w.w.length x.w.cap []
  rw [List.append_assoc] at e2
  simp only [List.cons_append, List.nil_append, List.length_append, List.length_cons, List.length_nil] at e2
  simp only [Sh.freshs, Sh.fresh, SV.dens, SV.den, BT.eval, Env.bool] at e1 e2 ⊢
  rw [e1, e2]; rfl
theorem DenM.loadFD {i : Nat} {I len : IT} {k : Tree} (l : List FD) (j : Nat) (hj : j < l.length) (hw : Good c L m → Cells (vw c L ρ blks m) (ρ.ptr i) (fcells l)) (hk : DenM P R Dn k L (ρ ++ [.b l[j].has, .p l[j].w.p, .i l[j].w.w.length, .i l[j].w.cap]) c m A) (hI : I.eval ρ = (j : Int) := by rfl) (hn : len.eval ρ = (l.length : Int) := by rfl) :
    DenM P R Dn (.chk (.pick (.cmp .geq I (.lit 0)) (.pick (.cmp .lss I len) (.some i) (.lit false)) (.lit false)) (.load i (.off I 2 (.lit 0)) [.bool, .sl] blks k)) L ρ c m A := by
  have h := fcells_at l j hj
  refine .elem [.b l[j].has, .p l[j].w.p, .i l[j].w.w.length, .i l[j].w.cap] (fcells l) j l.length hI hn hj rfl hw (by rw [fcells_len]; omega) (fun q v hv => ?_) hk
  rw [form_at] at hv
  match q, hv with
  | 0, hv => simp at hv; rw [← hv]; exact h.1
  | 1, hv => simp at hv; rw [← hv]; exact h.2
  | q + 2, hv => simp at hv
/-- Whether there is a form; its word: each by a load of its own. -/
theorem DenM.loadHas {i : Nat} {I len : IT} {k : Tree} (l : List FD) (j : Nat) (hj : j < l.length) (hw : Good c L m → Cells (vw c L ρ blks m) (ρ.ptr i) (fcells l)) (hk : DenM P R Dn k L (ρ ++ [.b l[j].has]) c m A) (hI : I.eval ρ = (j : Int) := by rfl) (hn : len.eval ρ = (l.length : Int) := by rfl) :
    DenM P R Dn (.chk (.pick (.cmp .geq I (.lit 0)) (.pick (.cmp .lss I len) (.some i) (.lit false)) (.lit false)) (.chk (.pick (.cmp .geq (.off I 2 (.lit 0)) (.lit 0)) (.some i) (.lit false)) (.load i (.off I 2 (.lit 0)) [.bool] blks k))) L ρ c m A := fun g => by
  have h := fcells_at l j hj
  obtain ⟨b, o, hpe⟩ := (hw g).some (i := j * 2) (by rw [fcells_len]; omega)
  have h1 : (BT.pick (.cmp .geq I (.lit 0)) (.pick (.cmp .lss I len) (.some i) (.lit false)) (.lit false)).eval ρ = true := by
    simp only [BT.eval, IT.eval, hI, hn, hpe, cm, pick_and]; simp; omega
  have h2 : (BT.pick (.cmp .geq (.off I 2 (.lit 0)) (.lit 0)) (.some i) (.lit false)).eval ρ = true := by
    simp only [BT.eval, IT.eval, hI, hpe, cm, pick_and]; simp; omega
  refine DenM.chk h1 (.chk h2 (.load1 (.bool l[j].has) (ρ.ptr i) (fcells l) (j * 2) rfl (by simp only [IT.eval, hI]; simp) hw h.1 hk rfl ?_)) g
  have e1 := getElem_env ρ [.b l[j].has] 0
  rw [Nat.add_zero] at e1
  simp only [Sh.freshs, Sh.fresh, SV.dens, SV.den, BT.eval, Env.bool, letU]
  rw [e1]; rfl
theorem DenM.loadFW {i : Nat} {I len : IT} {k : Tree} (l : List FD) (j : Nat) (hj : j < l.length) (hw : Good c L m → Cells (vw c L ρ blks m) (ρ.ptr i) (fcells l)) (hk : DenM P R Dn k L (ρ ++ [.p l[j].w.p, .i l[j].w.w.length, .i l[j].w.cap]) c m A) (hI : I.eval ρ = (j : Int) := by rfl) (hn : len.eval ρ = (l.length : Int) := by rfl) :
    DenM P R Dn (.chk (.pick (.cmp .geq I (.lit 0)) (.pick (.cmp .lss I len) (.some i) (.lit false)) (.lit false)) (.chk (.pick (.cmp .geq (.off I 2 (.lit 0)) (.lit 0)) (.some i) (.lit false)) (.load i (.off (.lit 1) 1 (.off I 2 (.lit 0))) [.sl] blks k))) L ρ c m A := fun g => by
  have h := fcells_at l j hj
  obtain ⟨b, o, hpe⟩ := (hw g).some (i := j * 2) (by rw [fcells_len]; omega)
  have h1 : (BT.pick (.cmp .geq I (.lit 0)) (.pick (.cmp .lss I len) (.some i) (.lit false)) (.lit false)).eval ρ = true := by
    simp only [BT.eval, IT.eval, hI, hn, hpe, cm, pick_and]; simp; omega
  have h2 : (BT.pick (.cmp .geq (.off I 2 (.lit 0)) (.lit 0)) (.some i) (.lit false)).eval ρ = true := by
    simp only [BT.eval, IT.eval, hI, hpe, cm, pick_and]; simp; omega
  exact DenM.chk h1 (.chk h2 (.loadS (fcells l) (j * 2 + 1) l[j].w.p l[j].w.w.length l[j].w.cap (by simp only [IT.eval, hI]; simp <;> omega) h.2 hw hk)) g
/-- The first row of a table. -/
theorem DenM.loadL0 {i : Nat} {len : IT} {k : Tree} (t : List LD) (hj : 0 < t.length) (hw : Good c L m → Cells (vw c L ρ blks m) (ρ.ptr i) (t.map LD.v)) (hk : DenM P R Dn k L (ρ ++ [.p t[0].p, .i t[0].fs.length, .i t[0].cap]) c m A) (hn : len.eval ρ = (t.length : Int) := by rfl) :
    DenM P R Dn (.chk (.pick (.cmp .lss (.lit 0) len) (.some i) (.lit false)) (.load i (.lit 0) [.sl] blks k)) L ρ c m A := fun g => by
  obtain ⟨b, o, hpe⟩ := (hw g).some (i := 0) (by simp; omega)
  have h1 : (BT.pick (.cmp .lss (.lit 0) len) (.some i) (.lit false)).eval ρ = true := by
    simp only [BT.eval, IT.eval, hn, hpe, cm, pick_and]; simp; omega
  exact DenM.chk h1 (.loadS (t.map LD.v) 0 t[0].p t[0].fs.length t[0].cap rfl (by simp [LD.v, hj]) hw hk) g
end
/-- A form that is none has no word. -/
def blankF (f : FD) : Bool := !f.has && decide (0 < f.w.w.length)
def badRow (n : Nat) (r : LD) : Bool := decide (r.fs.length ≠ n) || r.fs.any blankF
def wide (r : LD) : Bool := decide (r.fs.length > 16)
def tshape (t : List LD) : Int := if t.length > 64 ∨ t.any wide = true then 12 else if t.any (badRow ((t.head?.map (·.fs.length)).getD 0)) = true then 2 else 0
def twords (t : List LD) : List (List Snd) := t.flatMap fun r => r.fs.map (·.w.w)
def checkT (t : List LD) : Int := if tshape t ≠ 0 then tshape t else checkL (twords t)
def FormsOk (t : List LD) : Prop := ∀ r ∈ t, ∀ f ∈ r.fs, Wok f.w.w ∧ f.w.ok
theorem any_false {α : Type} {p : α → Bool} {l : List α} (h : ∀ i (hi : i < l.length), p l[i] = false) : l.any p = false := by
  rw [List.any_eq_false]
  intro x hx
  obtain ⟨i, hi, rfl⟩ := List.getElem_of_mem hx
  simp [h i hi]
theorem any_true {α : Type} {p : α → Bool} {l : List α} {i : Nat} (hi : i < l.length) (h : p l[i] = true) : l.any p = true := List.any_eq_true.2 ⟨l[i], List.getElem_mem hi, h⟩
theorem twords_split {t : List LD} {i k : Nat} (hi : i < t.length) (hk : k < t[i].fs.length) : twords t = twords (t.take i) ++ ((t[i].fs.take k).map (·.w.w) ++ (t[i].fs[k].w.w :: ((t[i].fs.drop (k + 1)).map (·.w.w) ++ twords (t.drop (i + 1))))) := by
  have h : t[i].fs.map (·.w.w) = (t[i].fs.take k).map (·.w.w) ++ (t[i].fs[k].w.w :: (t[i].fs.drop (k + 1)).map (·.w.w)) := by
    conv => lhs; rw [← List.take_append_drop k t[i].fs, List.drop_eq_getElem_cons hk]
    rw [List.map_append, List.map_cons]
  unfold twords
  conv => lhs; rw [← List.take_append_drop i t, List.drop_eq_getElem_cons hi, List.flatMap_append, List.flatMap_cons, h]
  rw [List.append_assoc, List.cons_append]
theorem twords_snoc {t : List LD} {i : Nat} (hi : i < t.length) : twords (t.take (i + 1)) = twords (t.take i) ++ t[i].fs.map (·.w.w) := by
  unfold twords
  rw [List.take_succ_eq_append_getElem hi, List.flatMap_append]; simp
theorem checkL_cons {w : List Snd} {l : List (List Snd)} : checkL (w :: l) = if checkW w ≠ 0 then checkW w else checkL l := rfl
end Go.Sy
namespace Go.Proofs.YtpbbnmjkbfbelaaDoor
open Go Go.Sy Go.RowKit
theorem c_indexT (p : Option Addr) (cp : Nat) (t : List LD) (fv : Value) (hfv : fv.oneCell' = true) (f : LD → Bool) (hl : t.length < 2 ^ 62) (hf : ∀ x ∈ t, FnV Tryd.prog fv [x.v] (fun _ => True) fun v _ _ => v = .bool (f x)) :
    RetP Tryd.prog n_slices_ContainsFunc_____api_Form___api_Form_ [slv p t.length cp, fv] (fun R => Cells R p (t.map LD.v)) (.bool (t.any f)) := by
  have key : RetP Tryd.prog n_slices_IndexFunc_____api_Form___api_Form_ [slv p t.length cp, fv] (fun R => Cells R p (t.map LD.v)) (.int .i64 (match t.findIdx? f with | some i => (i : Int) | none => -1)) := by
    refine Fn.of S_slices_IndexFunc_____api_Form___api_Form_ mx [.p p, .i t.length, .i cp, .v fv] (by simp [Sh.eats, Sh.eat, eatV, eatP, eatS, hfv]) rfl fun c hp => .chk (by ((try simp only [evE, liE, letsOf, letU, snd]); (try simp only [cmE])); omega) ?_
    refine .loop (fun n us _ => ∃ (e : Int) (j : Nat), us = [.i e, .i j] ∧ n + j = t.length ∧ ∀ i (hi : i < t.length), i < j → f t[i] = false) t.length ⟨0, 0, rfl, rfl, fun i hi h => by omega⟩ ?_
    rintro n _ m _ ⟨e, j, rfl, hn, hb⟩
    refine .env (by (try simp only [liE, letsOf, letU, snd, List.append_nil]); rfl) (.ite (fun h2 => ?_) (fun h2 => .ret rfl ?_)) <;> ((try simp only [evE, liE, letsOf, letU, snd] at h2); (try simp only [cmE] at h2))
    · have hj : j < t.length := by omega
      refine .loadLD t j hj (fun g => hp.mono g.R) (.env (by (try simp only [liE, letsOf, letU, snd, List.append_nil]); rfl) (.callvR (hf _ (List.getElem_mem hj)) (fun g => trivial) (fun m' _ => .env (by (try simp only [liE, letsOf, letU, snd, List.append_nil]); rfl) (.ite (fun h3 => .ret rfl ?_) (fun h3 => .again rfl ⟨n - 1, by omega, e, j + 1, ?_, by omega, ?_⟩)))))
      · replace h3 : f t[j] = true := h3
        rw [findIdx?_at hj h3 hb]; rfl
      · (simp only [evE, liE, letsOf, letU, snd, Sh.uss, Sh.us, atAddr, map_add0, List.append_nil]); rw [add_i64 j (by omega)]
      · replace h3 : f t[j] = false := h3
        intro i hi hij
        rcases Nat.lt_or_ge i j with h | h
        · exact hb i hi h
        · have : i = j := by omega
          subst this; exact h3
    · rw [findIdx?_none fun i hi => hb i hi (by omega)]; rfl
  refine Fn.of S_slices_ContainsFunc_____api_Form___api_Form_ mx [.p p, .i t.length, .i cp, .v fv] (by simp [Sh.eats, Sh.eat, eatV, eatP, eatS, hfv]) rfl fun c hp => .callV key (fun g => hp.mono g.R) (.env (by (try simp only [liE, letsOf, letU, snd, List.append_nil]); rfl) (.ret rfl ?_))
  cases h : t.findIdx? f with
  | none =>
    rw [List.findIdx?_eq_none_iff] at h
    have : t.any f = false := List.any_eq_false.2 fun x hx => by simp [h x hx]
    rw [this]; rfl
  | some i =>
    obtain ⟨hi, h1, _⟩ := List.findIdx?_eq_some_iff_getElem.1 h
    rw [any_true hi h1]
    show Value.bool (cm .geq (i : Int) 0) = _
    simp [cm]
theorem c_indexF (p : Option Addr) (cp : Nat) (t : List FD) (fv : Value) (hfv : fv.oneCell' = true) (f : FD → Bool) (hl : t.length < 2 ^ 62) (hf : ∀ x ∈ t, FnV Tryd.prog fv [.agg #[.bool x.has, x.w.v]] (fun _ => True) fun v _ _ => v = .bool (f x)) :
    RetP Tryd.prog n_slices_ContainsFunc___api_Form_api_Form_ [slv p t.length cp, fv] (fun R => Cells R p (fcells t)) (.bool (t.any f)) := by
  have key : RetP Tryd.prog n_slices_IndexFunc___api_Form_api_Form_ [slv p t.length cp, fv] (fun R => Cells R p (fcells t)) (.int .i64 (match t.findIdx? f with | some i => (i : Int) | none => -1)) := by
    refine Fn.of S_slices_IndexFunc___api_Form_api_Form_ mx [.p p, .i t.length, .i cp, .v fv] (by simp [Sh.eats, Sh.eat, eatV, eatP, eatS, hfv]) rfl fun c hp => .chk (by ((try simp only [evE, liE, letsOf, letU, snd]); (try simp only [cmE])); omega) ?_
    refine .loop (fun n us _ => ∃ (e : Int) (j : Nat), us = [.i e, .i j] ∧ n + j = t.length ∧ ∀ i (hi : i < t.length), i < j → f t[i] = false) t.length ⟨0, 0, rfl, rfl, fun i hi h => by omega⟩ ?_
    rintro n _ m _ ⟨e, j, rfl, hn, hb⟩
    refine .env (by (try simp only [liE, letsOf, letU, snd, List.append_nil]); rfl) (.ite (fun h2 => ?_) (fun h2 => .ret rfl ?_)) <;> ((try simp only [evE, liE, letsOf, letU, snd] at h2); (try simp only [cmE] at h2))
    · have hj : j < t.length := by omega
      refine .loadFD t j hj (fun g => hp.mono g.R) (.env (by (try simp only [liE, letsOf, letU, snd, List.append_nil]); rfl) (.callvR (hf _ (List.getElem_mem hj)) (fun g => trivial) (fun m' _ => .env (by (try simp only [liE, letsOf, letU, snd, List.append_nil]); rfl) (.ite (fun h3 => .ret rfl ?_) (fun h3 => .again rfl ⟨n - 1, by omega, e, j + 1, ?_, by omega, ?_⟩)))))
      · replace h3 : f t[j] = true := h3
        rw [findIdx?_at hj h3 hb]; rfl
      · (simp only [evE, liE, letsOf, letU, snd, Sh.uss, Sh.us, atAddr, map_add0, List.append_nil]); rw [add_i64 j (by omega)]
      · replace h3 : f t[j] = false := h3
        intro i hi hij
        rcases Nat.lt_or_ge i j with h | h
        · exact hb i hi h
        · have : i = j := by omega
          subst this; exact h3
    · rw [findIdx?_none fun i hi => hb i hi (by omega)]; rfl
  refine Fn.of S_slices_ContainsFunc___api_Form_api_Form_ mx [.p p, .i t.length, .i cp, .v fv] (by simp [Sh.eats, Sh.eat, eatV, eatP, eatS, hfv]) rfl fun c hp => .callV key (fun g => hp.mono g.R) (.env (by (try simp only [liE, letsOf, letU, snd, List.append_nil]); rfl) (.ret rfl ?_))
  cases h : t.findIdx? f with
  | none =>
    rw [List.findIdx?_eq_none_iff] at h
    have : t.any f = false := List.any_eq_false.2 fun x hx => by simp [h x hx]
    rw [this]; rfl
  | some i =>
    obtain ⟨hi, h1, _⟩ := List.findIdx?_eq_some_iff_getElem.1 h
    rw [any_true hi h1]
    show Value.bool (cm .geq (i : Int) 0) = _
    simp [cm]
theorem c_shape1 (x : LD) : FnM Tryd.prog n_paradigm_shape_1 [x.v] (fun _ => True) fun v _ _ => v = .bool (wide x) := by
  refine Fn.of S_paradigm_shape_1 mx [.p x.p, .i x.fs.length, .i x.cap] rfl rfl fun c _ => .chk (by ((try simp only [evE, liE, letsOf, letU, snd]); (try simp only [cmE])); omega) (.ret rfl ?_)
  show Value.bool (cm .gtr (x.fs.length : Int) 16) = _
  simp only [cm, wide]
  congr 1
  exact decide_eq_decide.2 (by omega)
theorem c_shape2 (x : FD) : FnM Tryd.prog n_paradigm_shape_2 [.agg #[.bool x.has, x.w.v]] (fun _ => True) fun v _ _ => v = .bool (blankF x) := by
  refine Fn.of S_paradigm_shape_2 mx [.b x.has, .p x.w.p, .i x.w.w.length, .i x.w.cap] rfl rfl fun c _ => .alloc fun b0 => ?_
  refine .join (fun us _ => us = [.b (blankF x)]) (.ite (fun h1 => .chk (by ((try simp only [evE, liE, letsOf, letU, snd]); (try simp only [cmE])); omega) (.again rfl ?_)) (fun h1 => .again rfl ?_)) ?_
  · replace h1 : (!x.has) = true := h1
    show [U.b (cm .gtr (x.w.w.length : Int) 0)] = _
    simp only [cm, blankF, h1, Bool.true_and]
    congr 2
    exact decide_eq_decide.2 (by omega)
  · replace h1 : (!x.has) = false := h1
    show [U.b false] = _
    simp only [blankF, h1, Bool.false_and]
  rintro _ _ _ rfl
  exact .ret rfl rfl
end Go.Proofs.YtpbbnmjkbfbelaaDoor
/- Chapter 30: paradigm.Check and the reference's. -/
namespace Go.Sy
open Go Go.RowKit
theorem head_len {t : List LD} (h : 0 < t.length) : (t.head?.map (·.fs.length)).getD 0 = t[0].fs.length := by
  cases t with
  | nil => simp at h
  | cons r t => rfl
theorem tshape_12 {t : List LD} (h : t.length > 64 ∨ t.any wide = true) : tshape t = 12 := by unfold tshape; rw [if_pos h]
theorem tshape_2 {t : List LD} (h1 : t.length ≤ 64) (h2 : t.any wide = false) (h3 : t.any (badRow ((t.head?.map (·.fs.length)).getD 0)) = true) : tshape t = 2 := by
  unfold tshape; rw [if_neg (by rw [h2]; simp; omega), if_pos h3]
theorem tshape_0 {t : List LD} (h1 : t.length ≤ 64) (h2 : t.any wide = false) (h3 : t.any (badRow ((t.head?.map (·.fs.length)).getD 0)) = false) : tshape t = 0 := by
  unfold tshape; rw [if_neg (by rw [h2]; simp; omega), if_neg (by simp [h3])]
end Go.Sy
namespace Go.Proofs.YtpbbnmjkbfbelaaDoor
open Go Go.Sy Go.RowKit
theorem c_shape (p : Option Addr) (cp : Nat) (t : List LD) (hl : t.length < 2 ^ 62) (hf : ∀ r ∈ t, r.fs.length < 2 ^ 62) : RetP Tryd.prog n_paradigm_shape [slv p t.length cp] (fun R => TableAt R p t) (.int .i64 (tshape t)) := by
  refine Fn.of S_paradigm_shape mx [.p p, .i t.length, .i cp] rfl rfl fun c hp => .chk (by ((try simp only [evE, liE, letsOf, letU, snd]); (try simp only [cmE])); omega) (.ite (fun h1 => .ret rfl ?_) (fun h1 => ?_)) <;> ((try simp only [evE, liE, letsOf, letU, snd] at h1); (try simp only [cmE] at h1))
  · rw [tshape_12 (.inl (by omega))]; rfl
  refine .callV (c_indexT p cp t (.func (.func n_paradigm_shape_1) #[] #[]) rfl wide hl fun x _ => FnV.of0 (by kernel_rfl) (c_shape1 x)) (fun g => hp.1.mono g.R) (.env (by (try simp only [liE, letsOf, letU, snd, List.append_nil]); rfl) (.ite (fun h2 => .ret rfl ?_) (fun h2 => .chk (by ((try simp only [evE, liE, letsOf, letU, snd]); (try simp only [cmE])); omega) ?_)))
  · replace h2 : t.any wide = true := h2
    rw [tshape_12 (.inr h2)]; rfl
  replace h2 : t.any wide = false := h2
  rw [h2]
  refine .loop (fun n us _ => ∃ (e : Int) (i : Nat), us = [.i e, .i i] ∧ n + i = t.length ∧ ∀ k (hk : k < t.length), k < i → badRow ((t.head?.map (·.fs.length)).getD 0) t[k] = false) t.length ⟨0, 0, rfl, rfl, fun i hi h => by omega⟩ ?_
  rintro n _ m _ ⟨e, i, rfl, hn, hb⟩
  refine .env (by (try simp only [liE, letsOf, letU, snd, List.append_nil]); rfl) (.ite (fun h3 => ?_) (fun h3 => .ret rfl ?_)) <;> ((try simp only [evE, liE, letsOf, letU, snd] at h3); (try simp only [cmE] at h3))
  · have hi : i < t.length := by omega
    have h0 : 0 < t.length := by omega
    have hd := head_len h0
    rw [hd] at hb
    refine .loadLD t i hi (fun g => hp.1.mono g.R) (.env (by (try simp only [liE, letsOf, letU, snd, List.append_nil]); rfl) (.chk (by ((try simp only [evE, liE, letsOf, letU, snd]); (try simp only [cmE])); omega) (.loadL0 t h0 (fun g => hp.1.mono g.R) (.env (by (try simp only [liE, letsOf, letU, snd, List.append_nil]); rfl) (.chk (by ((try simp only [evE, liE, letsOf, letU, snd]); (try simp only [cmE])); omega) (.ite (fun h4 => .ret rfl ?_) (fun h4 => ?_))))))) <;> ((try simp only [evE, liE, letsOf, letU, snd] at h4); (try simp only [cmE] at h4))
    · rw [tshape_2 (by omega) h2 (any_true hi (by rw [hd]; simp [badRow]; omega))]; rfl
    refine .callV (c_indexF t[i].p t[i].cap t[i].fs (.func (.func n_paradigm_shape_2) #[] #[]) rfl blankF (hf _ (List.getElem_mem hi)) fun x _ => FnV.of0 (by kernel_rfl) (c_shape2 x)) (fun g => (hp.2 _ (List.getElem_mem hi)).1.mono g.R) (.env (by (try simp only [liE, letsOf, letU, snd, List.append_nil]); rfl) (.ite (fun h5 => .ret rfl ?_) (fun h5 => .again rfl ⟨n - 1, by omega, e, i + 1, ?_, by omega, fun k hk hki => ?_⟩)))
    · replace h5 : t[i].fs.any blankF = true := h5
      rw [tshape_2 (by omega) h2 (any_true hi (by rw [hd]; unfold badRow; rw [h5]; simp))]; rfl
    · (simp only [evE, liE, letsOf, letU, snd, Sh.uss, Sh.us, atAddr, map_add0, List.append_nil]); rw [add_i64 i (by omega)]
    · replace h5 : t[i].fs.any blankF = false := h5
      rcases Nat.lt_or_ge k i with h | h
      · rw [hd]; exact hb k hk h
      · have : k = i := by omega
        subst this
        rw [hd]; unfold badRow; rw [h5]; simp; omega
  · rw [tshape_0 (by omega) h2 (any_false fun k hk => hb k hk (by omega))]; rfl
theorem c_pwords (p : Option Addr) (cp : Nat) (t : List LD) (hl : t.length < 2 ^ 62) (hf : ∀ r ∈ t, r.fs.length < 2 ^ 62) (hok : FormsOk t) : RetP Tryd.prog n_paradigm_words [slv p t.length cp] (fun R => TableAt R p t) (.int .i64 (checkL (twords t))) := by
  refine Fn.of S_paradigm_words mx [.p p, .i t.length, .i cp] rfl rfl fun c hp => .chk (by ((try simp only [evE, liE, letsOf, letU, snd]); (try simp only [cmE])); omega) ?_
  refine .loop (fun n us _ => ∃ (e : Int) (i : Nat), us = [.i e, .i i] ∧ n + i = t.length ∧ checkL (twords (t.take i)) = 0) t.length ⟨0, 0, rfl, rfl, rfl⟩ ?_
  rintro n _ m _ ⟨e, i, rfl, hn, hc⟩
  refine .env (by (try simp only [liE, letsOf, letU, snd, List.append_nil]); rfl) (.ite (fun h1 => ?_) (fun h1 => .ret rfl ?_)) <;> ((try simp only [evE, liE, letsOf, letU, snd] at h1); (try simp only [cmE] at h1))
  · have hi : i < t.length := by omega
    have hfi := hf _ (List.getElem_mem hi)
    have hoi := hok _ (List.getElem_mem hi)
    have hpi := hp.2 _ (List.getElem_mem hi)
    refine .loadLD t i hi (fun g => hp.1.mono g.R) (.env (by (try simp only [liE, letsOf, letU, snd, List.append_nil]); rfl) (.chk (by ((try simp only [evE, liE, letsOf, letU, snd]); (try simp only [cmE])); omega) ?_))
    refine .loop (fun n us _ => ∃ (e : Int) (k : Nat), us = [.i e, .i k] ∧ n + k = t[i].fs.length ∧ checkL (twords (t.take i) ++ (t[i].fs.take k).map (·.w.w)) = 0) t[i].fs.length ⟨e, 0, rfl, rfl, by simpa using hc⟩ ?_
    rintro n1 _ m _ ⟨e, k, rfl, hn1, hc1⟩
    refine .env (by (try simp only [liE, letsOf, letU, snd, List.append_nil]); rfl) (.ite (fun h2 => ?_) (fun h2 => .again rfl ⟨n - 1, by omega, e, i + 1, ?_, by omega, ?_⟩)) <;> ((try simp only [evE, liE, letsOf, letU, snd] at h2); (try simp only [cmE] at h2))
    · have hk : k < t[i].fs.length := by omega
      refine .loadFD t[i].fs k hk (fun g => hpi.1.mono g.R) (.env (by (try simp only [liE, letsOf, letU, snd, List.append_nil]); rfl) (.alloc fun b0 => .callV (c_wordCheck t[i].fs[k].w.p t[i].fs[k].w.cap t[i].fs[k].w.w (hoi _ (List.getElem_mem hk)).1) (fun g => (hpi.2 _ (List.getElem_mem hk)).mono g.R) (.env (by (try simp only [liE, letsOf, letU, snd, List.append_nil]); rfl) (.ite (fun h3 => .ret rfl ?_) (fun h3 => .again rfl ⟨n1 - 1, by omega, e, k + 1, ?_, by omega, ?_⟩)))))
      · ((try simp only [evE, liE, letsOf, letU, snd] at h3); (try simp only [cmE] at h3))
        rw [twords_split hi hk, ← List.append_assoc, checkL_append, if_neg (fun h => h hc1), checkL_cons, if_pos h3]; rfl
      · (simp only [evE, liE, letsOf, letU, snd, Sh.uss, Sh.us, atAddr, map_add0, List.append_nil]); rw [add_i64 k (by omega)]
      · ((try simp only [evE, liE, letsOf, letU, snd] at h3); (try simp only [cmE] at h3))
        rw [List.take_succ_eq_append_getElem hk, List.map_append, ← List.append_assoc, checkL_append, if_neg (fun h => h hc1)]
        simp [checkL_cons, h3, checkL]
    · (simp only [evE, liE, letsOf, letU, snd, Sh.uss, Sh.us, atAddr, map_add0, List.append_nil]); rw [add_i64 i (by omega)]
    · rw [twords_snoc hi]
      rw [List.take_of_length_le (show t[i].fs.length ≤ k by omega)] at hc1
      exact hc1
  · rw [List.take_of_length_le (by omega)] at hc
    rw [hc]; rfl
theorem c_Check (p : Option Addr) (cp : Nat) (t : List LD) (hl : t.length < 2 ^ 62) (hf : ∀ r ∈ t, r.fs.length < 2 ^ 62) (hok : FormsOk t) : RetP Tryd.prog n_paradigm_Check [slv p t.length cp] (fun R => TableAt R p t) (.int .i64 (checkT t)) := by
  refine Fn.of S_paradigm_Check mx [.p p, .i t.length, .i cp] rfl rfl fun c hp => .callV (c_shape p cp t hl hf) (fun g => hp.mono g.R) (.env (by (try simp only [liE, letsOf, letU, snd, List.append_nil]); rfl) (.ite (fun h1 => .ret rfl ?_) (fun h1 => .callV (c_pwords p cp t hl hf hok) (fun g => hp.mono g.R) (.ret rfl ?_)))) <;> ((try simp only [evE, liE, letsOf, letU, snd] at h1); (try simp only [cmE] at h1))
  · unfold checkT; rw [if_pos h1]; rfl
  · unfold checkT; rw [if_neg (by simp [h1])]; rfl
set_option maxHeartbeats 1000000 in
theorem c_refShape (p : Option Addr) (cp : Nat) (t : List LD) (hl : t.length < 2 ^ 62) (hf : ∀ r ∈ t, r.fs.length < 2 ^ 62) : RetP Tryd.prog n_ref29_shape [slv p t.length cp] (fun R => TableAt R p t) (.int .i64 (tshape t)) := by
  refine Fn.of S_ref29_shape mx [.p p, .i t.length, .i cp] rfl rfl fun c hp => .chk (by ((try simp only [evE, liE, letsOf, letU, snd]); (try simp only [cmE])); omega) (.ite (fun h1 => .ret rfl ?_) (fun h1 => ?_)) <;> ((try simp only [evE, liE, letsOf, letU, snd] at h1); (try simp only [cmE] at h1))
  · rw [tshape_12 (.inl (by omega))]; rfl
  refine .loop (fun n us _ => ∃ (e : Int) (i : Nat), us = [.i e, .i i] ∧ n + i = t.length ∧ ∀ k (hk : k < t.length), k < i → wide t[k] = false) t.length ⟨0, 0, rfl, rfl, fun i hi h => by omega⟩ ?_
  rintro n _ m _ ⟨e, i, rfl, hn, hb⟩
  refine .env (by (try simp only [liE, letsOf, letU, snd, List.append_nil]); rfl) (.chk (by ((try simp only [evE, liE, letsOf, letU, snd]); (try simp only [cmE])); omega) (.ite (fun h2 => ?_) (fun h2 => ?_))) <;> ((try simp only [evE, liE, letsOf, letU, snd] at h2); (try simp only [cmE] at h2))
  · have hi : i < t.length := by omega
    refine .loadLD t i hi (fun g => hp.1.mono g.R) (.env (by (try simp only [liE, letsOf, letU, snd, List.append_nil]); rfl) (.chk (by ((try simp only [evE, liE, letsOf, letU, snd]); (try simp only [cmE])); omega) (.ite (fun h3 => .ret rfl ?_) (fun h3 => .again rfl ⟨n - 1, by omega, e, i + 1, ?_, by omega, fun k hk hki => ?_⟩)))) <;> ((try simp only [evE, liE, letsOf, letU, snd] at h3); (try simp only [cmE] at h3))
    · rw [tshape_12 (.inr (any_true hi (by simp [wide]; omega)))]; rfl
    · (simp only [evE, liE, letsOf, letU, snd, Sh.uss, Sh.us, atAddr, map_add0, List.append_nil]); rw [add_i64 i (by omega)]
    · rcases Nat.lt_or_ge k i with h | h
      · exact hb k hk h
      · have : k = i := by omega
        subst this
        simp [wide]; omega
  have h2' : t.any wide = false := any_false fun k hk => hb k hk (by omega)
  clear hb
  refine .loop (fun n us _ => ∃ (e : Int) (i : Nat), us = [.i e, .i i] ∧ n + i = t.length ∧ ∀ k (hk : k < t.length), k < i → badRow ((t.head?.map (·.fs.length)).getD 0) t[k] = false) t.length ⟨e, 0, rfl, rfl, fun i hi h => by omega⟩ ?_
  rintro n2 _ m2 _ ⟨e2, i2, rfl, hn2, hb⟩
  refine .env (by (try simp only [liE, letsOf, letU, snd, List.append_nil]); rfl) (.chk (by ((try simp only [evE, liE, letsOf, letU, snd]); (try simp only [cmE])); omega) (.ite (fun h3 => ?_) (fun h3 => .ret rfl ?_))) <;> ((try simp only [evE, liE, letsOf, letU, snd] at h3); (try simp only [cmE] at h3))
  · have hi : i2 < t.length := by omega
    have h0 : 0 < t.length := by omega
    have hd := head_len h0
    have hfi := hf _ (List.getElem_mem hi)
    have hpi := hp.2 _ (List.getElem_mem hi)
    rw [hd] at hb
    refine .loadLD t i2 hi (fun g => hp.1.mono g.R) (.env (by (try simp only [liE, letsOf, letU, snd, List.append_nil]); rfl) (.chk (by ((try simp only [evE, liE, letsOf, letU, snd]); (try simp only [cmE])); omega) (.loadL0 t h0 (fun g => hp.1.mono g.R) (.env (by (try simp only [liE, letsOf, letU, snd, List.append_nil]); rfl) (.chk (by ((try simp only [evE, liE, letsOf, letU, snd]); (try simp only [cmE])); omega) (.ite (fun h4 => .ret rfl ?_) (fun h4 => ?_))))))) <;> ((try simp only [evE, liE, letsOf, letU, snd] at h4); (try simp only [cmE] at h4))
    · rw [tshape_2 (by omega) h2' (any_true hi (by rw [hd]; simp [badRow]; omega))]; rfl
    refine .loop (fun n us _ => ∃ (e : Int) (k : Nat), us = [.i e, .i k] ∧ n + k = t[i2].fs.length ∧ ∀ j (hj : j < t[i2].fs.length), j < k → blankF t[i2].fs[j] = false) t[i2].fs.length ⟨e2, 0, rfl, rfl, fun i hi h => by omega⟩ ?_
    rintro n3 _ m3 _ ⟨e3, k, rfl, hn3, hb3⟩
    refine .env (by (try simp only [liE, letsOf, letU, snd, List.append_nil]); rfl) (.loadLD t i2 hi (fun g => hp.1.mono g.R) (.env (by (try simp only [liE, letsOf, letU, snd, List.append_nil]); rfl) (.chk (by ((try simp only [evE, liE, letsOf, letU, snd]); (try simp only [cmE])); omega) (.ite (fun h5 => ?_) (fun h5 => .again rfl ⟨n2 - 1, by omega, e3, i2 + 1, ?_, by omega, fun j hj hji => ?_⟩))))) <;> ((try simp only [evE, liE, letsOf, letU, snd] at h5); (try simp only [cmE] at h5))
    · have hk : k < t[i2].fs.length := by omega
      refine .loadLD t i2 hi (fun g => hp.1.mono g.R) (.env (by (try simp only [liE, letsOf, letU, snd, List.append_nil]); rfl) (.loadHas t[i2].fs k hk (fun g => hpi.1.mono g.R) (.env (by (try simp only [liE, letsOf, letU, snd, List.append_nil]); rfl) (.ite (fun h6 => ?_) (fun h6 => .again rfl ⟨n3 - 1, by omega, e3, k + 1, ?_, by omega, fun j hj hjk => ?_⟩)))))
      · replace h6 : (!t[i2].fs[k].has) = true := h6
        refine .loadLD t i2 hi (fun g => hp.1.mono g.R) (.env (by (try simp only [liE, letsOf, letU, snd, List.append_nil]); rfl) (.loadFW t[i2].fs k hk (fun g => hpi.1.mono g.R) (.env (by (try simp only [liE, letsOf, letU, snd, List.append_nil]); rfl) (.chk (by ((try simp only [evE, liE, letsOf, letU, snd]); (try simp only [cmE])); omega) (.ite (fun h7 => .ret rfl ?_) (fun h7 => .again rfl ⟨n3 - 1, by omega, e3, k + 1, ?_, by omega, fun j hj hjk => ?_⟩)))))) <;> ((try simp only [evE, liE, letsOf, letU, snd] at h7); (try simp only [cmE] at h7))
        · have hbl : blankF t[i2].fs[k] = true := by unfold blankF; rw [h6]; simp; omega
          rw [tshape_2 (by omega) h2' (any_true hi (by rw [hd]; unfold badRow; rw [any_true hk hbl]; simp))]; rfl
        · (simp only [evE, liE, letsOf, letU, snd, Sh.uss, Sh.us, atAddr, map_add0, List.append_nil]); rw [add_i64 k (by omega)]
        · rcases Nat.lt_or_ge j k with h | h
          · exact hb3 j hj h
          · have : j = k := by omega
            subst this
            have h8 : decide (0 < t[i2].fs[j].w.w.length) = false := decide_eq_false (by omega)
            unfold blankF; rw [h8, Bool.and_false]
      · (simp only [evE, liE, letsOf, letU, snd, Sh.uss, Sh.us, atAddr, map_add0, List.append_nil]); rw [add_i64 k (by omega)]
      · replace h6 : (!t[i2].fs[k].has) = false := h6
        rcases Nat.lt_or_ge j k with h | h
        · exact hb3 j hj h
        · have : j = k := by omega
          subst this
          unfold blankF; rw [h6]; rfl
    · (simp only [evE, liE, letsOf, letU, snd, Sh.uss, Sh.us, atAddr, map_add0, List.append_nil]); rw [add_i64 i2 (by omega)]
    · rcases Nat.lt_or_ge j i2 with h | h
      · rw [hd]; exact hb j hj h
      · have : j = i2 := by omega
        subst this
        rw [hd]; unfold badRow; rw [any_false fun k hk => hb3 k hk (by omega)]; simp; omega
  · rw [tshape_0 (by omega) h2' (any_false fun k hk => hb k hk (by omega))]; rfl
theorem c_refPwords (p : Option Addr) (cp : Nat) (t : List LD) (hl : t.length < 2 ^ 62) (hf : ∀ r ∈ t, r.fs.length < 2 ^ 62) (hok : FormsOk t) : RetP Tryd.prog n_ref29_words [slv p t.length cp] (fun R => TableAt R p t) (.int .i64 (checkL (twords t))) := by
  refine Fn.of S_ref29_words mx [.p p, .i t.length, .i cp] rfl rfl fun c hp => ?_
  refine .loop (fun n us _ => ∃ (e : Int) (i : Nat), us = [.i e, .i i] ∧ n + i = t.length ∧ checkL (twords (t.take i)) = 0) t.length ⟨0, 0, rfl, rfl, rfl⟩ ?_
  rintro n _ m _ ⟨e, i, rfl, hn, hc⟩
  refine .env (by (try simp only [liE, letsOf, letU, snd, List.append_nil]); rfl) (.chk (by ((try simp only [evE, liE, letsOf, letU, snd]); (try simp only [cmE])); omega) (.ite (fun h1 => ?_) (fun h1 => .ret rfl ?_))) <;> ((try simp only [evE, liE, letsOf, letU, snd] at h1); (try simp only [cmE] at h1))
  · have hi : i < t.length := by omega
    have hfi := hf _ (List.getElem_mem hi)
    have hoi := hok _ (List.getElem_mem hi)
    have hpi := hp.2 _ (List.getElem_mem hi)
    refine .loop (fun n us _ => ∃ (e : Int) (k : Nat), us = [.i e, .i k] ∧ n + k = t[i].fs.length ∧ checkL (twords (t.take i) ++ (t[i].fs.take k).map (·.w.w)) = 0) t[i].fs.length ⟨e, 0, rfl, rfl, by simpa using hc⟩ ?_
    rintro n1 _ m _ ⟨e, k, rfl, hn1, hc1⟩
    refine .env (by (try simp only [liE, letsOf, letU, snd, List.append_nil]); rfl) (.loadLD t i hi (fun g => hp.1.mono g.R) (.env (by (try simp only [liE, letsOf, letU, snd, List.append_nil]); rfl) (.chk (by ((try simp only [evE, liE, letsOf, letU, snd]); (try simp only [cmE])); omega) (.ite (fun h2 => ?_) (fun h2 => .again rfl ⟨n - 1, by omega, e, i + 1, ?_, by omega, ?_⟩))))) <;> ((try simp only [evE, liE, letsOf, letU, snd] at h2); (try simp only [cmE] at h2))
    · have hk : k < t[i].fs.length := by omega
      refine .loadLD t i hi (fun g => hp.1.mono g.R) (.env (by (try simp only [liE, letsOf, letU, snd, List.append_nil]); rfl) (.loadFW t[i].fs k hk (fun g => hpi.1.mono g.R) (.env (by (try simp only [liE, letsOf, letU, snd, List.append_nil]); rfl) (.callV (c_ref02Check t[i].fs[k].w.p t[i].fs[k].w.cap t[i].fs[k].w.w (hoi _ (List.getElem_mem hk)).1) (fun g => (hpi.2 _ (List.getElem_mem hk)).mono g.R) (.env (by (try simp only [liE, letsOf, letU, snd, List.append_nil]); rfl) (.ite (fun h3 => .ret rfl ?_) (fun h3 => .again rfl ⟨n1 - 1, by omega, e, k + 1, ?_, by omega, ?_⟩)))))))
      · ((try simp only [evE, liE, letsOf, letU, snd] at h3); (try simp only [cmE] at h3))
        rw [twords_split hi hk, ← List.append_assoc, checkL_append, if_neg (fun h => h hc1), checkL_cons, if_pos h3]; rfl
      · (simp only [evE, liE, letsOf, letU, snd, Sh.uss, Sh.us, atAddr, map_add0, List.append_nil]); rw [add_i64 k (by omega)]
      · ((try simp only [evE, liE, letsOf, letU, snd] at h3); (try simp only [cmE] at h3))
        rw [List.take_succ_eq_append_getElem hk, List.map_append, ← List.append_assoc, checkL_append, if_neg (fun h => h hc1)]
        simp [checkL_cons, h3, checkL]
    · (simp only [evE, liE, letsOf, letU, snd, Sh.uss, Sh.us, atAddr, map_add0, List.append_nil]); rw [add_i64 i (by omega)]
    · rw [twords_snoc hi]
      rw [List.take_of_length_le (show t[i].fs.length ≤ k by omega)] at hc1
      exact hc1
  · rw [List.take_of_length_le (by omega)] at hc
    rw [hc]; rfl
theorem c_ref29Check (p : Option Addr) (cp : Nat) (t : List LD) (hl : t.length < 2 ^ 62) (hf : ∀ r ∈ t, r.fs.length < 2 ^ 62) (hok : FormsOk t) : RetP Tryd.prog n_ref29_Check [slv p t.length cp] (fun R => TableAt R p t) (.int .i64 (checkT t)) := by
  refine Fn.of S_ref29_Check mx [.p p, .i t.length, .i cp] rfl rfl fun c hp => .callV (c_refShape p cp t hl hf) (fun g => hp.mono g.R) (.env (by (try simp only [liE, letsOf, letU, snd, List.append_nil]); rfl) (.ite (fun h1 => .ret rfl ?_) (fun h1 => .callV (c_refPwords p cp t hl hf hok) (fun g => hp.mono g.R) (.ret rfl ?_)))) <;> ((try simp only [evE, liE, letsOf, letU, snd] at h1); (try simp only [cmE] at h1))
  · unfold checkT; rw [if_pos h1]; rfl
  · unfold checkT; rw [if_neg (by simp [h1])]; rfl
end Go.Proofs.YtpbbnmjkbfbelaaDoor
/- Chapter 30: the endings of a paradigm. -/
namespace Go.Sy
open Go Go.RowKit
section
variable {P : Program} {c : Cx} {L : List Nat} {ρ : Env} {blks : List Blk} {m : Mem} {R : Value → HW → Prop} {Dn : Nat → List U → HW → Prop} {A : List (List U → HW → Prop)}
theorem DenM.loadWD0 {i : Nat} {len : IT} {k : Tree} (t : List WD) (hj : 0 < t.length) (hw : Good c L m → Cells (vw c L ρ blks m) (ρ.ptr i) (t.map WD.v)) (hk : DenM P R Dn k L (ρ ++ [.p t[0].p, .i t[0].w.length, .i t[0].cap]) c m A) (hn : len.eval ρ = (t.length : Int) := by rfl) :
    DenM P R Dn (.chk (.pick (.cmp .lss (.lit 0) len) (.some i) (.lit false)) (.load i (.lit 0) [.sl] blks k)) L ρ c m A := fun g => by
  obtain ⟨b, o, hpe⟩ := (hw g).some (i := 0) (by simp; omega)
  have h1 : (BT.pick (.cmp .lss (.lit 0) len) (.some i) (.lit false)).eval ρ = true := by
    simp only [BT.eval, IT.eval, hn, hpe, cm, pick_and]; simp; omega
  exact DenM.chk h1 (.loadS (t.map WD.v) 0 t[0].p t[0].w.length t[0].cap rfl (by simp [WD.v, hj]) hw hk) g
end
def knownF (t : List LD) (k : Nat) : List WD := t.filterMap fun r => (r.fs[k]?).bind fun f => if f.has then some f.w else none
def endN (h : List Snd) (l : List (List Snd)) : Nat := l.foldl (fun n w => min n (csl w h)) h.length
def endW : List (List Snd) → Nat
  | [] => 0
  | h :: l => endN h (h :: l)
def endK (t : List LD) (k : Nat) : Nat := endW ((knownF t k).map (·.w))
theorem endN_snoc {h : List Snd} {l : List (List Snd)} {i : Nat} (hi : i < l.length) : endN h (l.take (i + 1)) = min (endN h (l.take i)) (csl l[i] h) := by
  unfold endN
  rw [List.take_succ_eq_append_getElem hi, List.foldl_append]; rfl
theorem endW_at {l : List (List Snd)} (h : 0 < l.length) : endW l = endN l[0] l := by cases l with
  | nil => simp at h
  | cons x l => rfl
theorem csl_at {a b : List Snd} {j : Nat} (ha : j < a.length) (hb : j < b.length) : cpl (a.reverse.drop j) (b.reverse.drop j) = if a[a.length - 1 - j] = b[b.length - 1 - j] then 1 + cpl (a.reverse.drop (j + 1)) (b.reverse.drop (j + 1)) else 0 := by
  rw [cpl_drop (by simpa using ha) (by simpa using hb)]
  rw [List.getElem_reverse, List.getElem_reverse]
theorem csl_end {a b : List Snd} {j : Nat} (h : a.length ≤ j ∨ b.length ≤ j) : cpl (a.reverse.drop j) (b.reverse.drop j) = 0 := cpl_end (by simpa using h)
theorem knownF_snoc {t : List LD} {k i : Nat} (hi : i < t.length) (hk : k < t[i].fs.length) : knownF (t.take (i + 1)) k = knownF (t.take i) k ++ if t[i].fs[k].has then [t[i].fs[k].w] else [] := by
  unfold knownF
  rw [List.take_succ_eq_append_getElem hi, List.filterMap_append]
  congr 1
  simp only [List.filterMap_cons, List.filterMap_nil, List.getElem?_eq_getElem hk, Option.bind_some]
  cases t[i].fs[k].has <;> rfl
theorem knownF_mem {t : List LD} {k : Nat} {x : WD} (h : x ∈ knownF t k) : ∃ r ∈ t, ∃ f ∈ r.fs, f.w = x := by
  unfold knownF at h
  obtain ⟨r, hr, h2⟩ := List.mem_filterMap.1 h
  cases h3 : r.fs[k]? with
  | none => rw [h3] at h2; cases h2
  | some f =>
    rw [h3] at h2
    simp only [Option.bind_some] at h2
    split at h2
    · cases h2; exact ⟨r, hr, f, List.mem_of_getElem? h3, rfl⟩
    · cases h2
theorem knownF_len (t : List LD) (k : Nat) : (knownF t k).length ≤ t.length := List.length_filterMap_le _ _
theorem endN_le {h : List Snd} (l : List (List Snd)) : endN h l ≤ h.length := by
  unfold endN
  have : ∀ (l : List (List Snd)) (n : Nat), n ≤ h.length → l.foldl (fun n w => min n (csl w h)) n ≤ h.length := fun l => by
    induction l with
    | nil => exact fun n hn => hn
    | cons w l ih => intro n hn; exact ih _ (Nat.le_trans (Nat.min_le_left ..) hn)
  exact this l _ (Nat.le_refl _)
end Go.Sy
namespace Go.Proofs.YtpbbnmjkbfbelaaDoor
open Go Go.Sy Go.RowKit
set_option maxHeartbeats 2000000 in
theorem c_endings (p : Option Addr) (cp : Nat) (t : List LD) (n0 : Nat) (h0 : 0 < t.length) (hl : t.length ≤ 64) (hn0 : ∀ r ∈ t, r.fs.length = n0) (h16 : n0 ≤ 16) (hw : ∀ r ∈ t, ∀ f ∈ r.fs, f.w.w.length ≤ 32) :
    FnM Tryd.prog n_analogy_endings [slv p t.length cp] (fun R => TableAt R p t) fun v mq _ => ∃ qo co, v = slv qo n0 co ∧ Row mq 3 1 qo co n0 ((List.range n0).map fun k => .int .i64 (endK t k : Nat)) := by
  refine FnM.of S_analogy_endings mx [.p p, .i t.length, .i cp] rfl rfl fun c hp => .chk (by ((try simp only [evE, liE, letsOf, letU, snd]); (try simp only [cmE])); omega) (.no (by ((try simp only [evE, liE, letsOf, letU, snd]); (try simp only [cmE])); omega) ?_)
  have hn00 := hn0 _ (List.getElem_mem h0)
  refine .loadL0 t h0 (fun g => hp.1.mono g.R) (.env (by (try simp only [liE, letsOf, letU, snd, List.append_nil]); rfl) ?_)
  rw [hn00]
  refine .chk (by ((try simp only [evE, liE, letsOf, letU, snd]); (try simp only [cmE])); omega) (.make (z := .int .i64 0) (bytes := 8) n0 Tryd.underlying92 (by kernel_rfl) rfl (by omega) (by simp [maxLen]; omega) fun gb hgb hr => .env (by (try simp only [liE, letsOf, letU, snd, List.append_nil]); rfl) (.chk (by ((try simp only [evE, liE, letsOf, letU, snd]); (try simp only [cmE])); omega) ?_))
  generalize Mem.upd _ gb _ = m at hr ⊢
  refine .loop (fun n us mm => ∃ (k : Nat) (xs : List Int), us = [.i k] ∧ n + k = n0 ∧ xs.length = n0 ∧ (∀ j, j < n0 → xs[j]? = some (if j < k then ((endK t j : Nat) : Int) else 0)) ∧ Row mm 3 1 (some ⟨gb, 0, none⟩) n0 n0 (xs.map (.int .i64))) n0
    ⟨0, List.replicate n0 0, rfl, rfl, by simp, fun j hj => by simp [hj], by rw [List.map_replicate]; exact hr⟩ ?_
  clear hr
  rintro n _ m _ ⟨k, xs, rfl, hn, hxl, hx, hr⟩
  refine .env (by (try simp only [liE, letsOf, letU, snd, List.append_nil]); rfl) (.ite (fun h1 => .chk (by ((try simp only [evE, liE, letsOf, letU, snd]); (try simp only [cmE])); omega) ?_) (fun h1 => .ret rfl ⟨some ⟨gb, 0, none⟩, n0, rfl, ?_⟩)) <;> ((try simp only [evE, liE, letsOf, letU, snd] at h1); (try simp only [cmE] at h1))
  · have hk : k < n0 := by omega
    -- the words that are known
    refine .loop (fun n us mm => ∃ (i : Nat) (q : Option Addr) (cq : Nat) (l : List WD), us = [.p q, .i l.length, .i cq, .i i] ∧ n + i = t.length ∧ l = knownF (t.take i) k ∧ Row mm 22 1 q cq l.length (l.map WD.v) ∧ Row mm 3 1 (some ⟨gb, 0, none⟩) n0 n0 (xs.map (.int .i64))) t.length ⟨0, none, 0, [], rfl, rfl, rfl, Row.nil _ _ _, hr⟩ ?_
    clear hr
    rintro n1 _ m _ ⟨i, q, cq, l, rfl, hn1, hlk, hrl, hr⟩
    refine .env (by (try simp only [liE, letsOf, letU, snd, List.append_nil]); rfl) (.ite (fun h2 => ?_) (fun h2 => .chk (by ((try simp only [evE, liE, letsOf, letU, snd]); (try simp only [cmE])); omega) ?_)) <;> ((try simp only [evE, liE, letsOf, letU, snd] at h2); (try simp only [cmE] at h2))
    · have hi : i < t.length := by omega
      have hfl := hn0 _ (List.getElem_mem hi)
      have hki : k < t[i].fs.length := by omega
      have hpi := hp.2 _ (List.getElem_mem hi)
      have hll : l.length ≤ 64 := by rw [hlk]; have := knownF_len (t.take i) k; rw [List.length_take] at this; omega
      have hsn := knownF_snoc hi hki
      refine .loadLD t i hi (fun g => hp.1.mono g.R) (.env (by (try simp only [liE, letsOf, letU, snd, List.append_nil]); rfl) (.loadHas t[i].fs k hki (fun g => hpi.1.mono g.R) (.env (by (try simp only [liE, letsOf, letU, snd, List.append_nil]); rfl) ?_)))
      refine .join (fun us mm => ∃ (q : Option Addr) (cq : Nat) (l : List WD), us = [.p q, .i l.length, .i cq] ∧ l = knownF (t.take (i + 1)) k ∧ Row mm 22 1 q cq l.length (l.map WD.v) ∧ Row mm 3 1 (some ⟨gb, 0, none⟩) n0 n0 (xs.map (.int .i64))) (.ite (fun h3 => ?_) (fun h3 => .again rfl ⟨q, cq, l, (by (simp only [evE, liE, letsOf, letU, snd, Sh.uss, Sh.us, atAddr, map_add0, List.append_nil]) <;> rfl), ?_, hrl, hr⟩)) ?_
      · replace h3 : t[i].fs[k].has = true := h3
        rw [h3] at hsn
        refine .loadFW t[i].fs k hki (fun g => hpi.1.mono g.R) (.env (by (try simp only [liE, letsOf, letU, snd, List.append_nil]); rfl) (.alloc fun b0 => .append (n := l.length) (kx := 1) (qx := some ⟨b0, 0, none⟩) (capx := 1) (news := [t[i].fs[k].w.v]) el85 hrl (fun g => g.cells (j := 0) rfl rfl rfl) rfl (by simp; rfl) (fun h => by cases h) (by simp [maxLen]; omega) (by omega) (fun q3 k3 m3 hr3 hk3 _ => ?_)))
        refine .env (by (try simp only [liE, letsOf, letU, snd, List.append_nil]); rfl) (.again rfl ⟨q3, k3, l ++ [t[i].fs[k].w], ?_, ?_, ?_, ?_⟩)
        · (simp only [evE, liE, letsOf, letU, snd, Sh.uss, Sh.us, atAddr, map_add0, List.append_nil]); simp only [List.length_append, List.length_cons, List.length_nil]
        · rw [hsn, hlk]; rfl
        · rw [List.length_append, List.map_append]; exact hr3
        · refine hr.keep fun g hg hgn => ?_
          cases hg
          refine hk3 gb (fun ⟨o, ho⟩ => ?_) hgn
          obtain ⟨cur, hcur⟩ := hrl.at_cells ho
          obtain ⟨cur2, hcur2⟩ := hr.at_cells rfl
          rw [hcur] at hcur2; cases hcur2
      · replace h3 : t[i].fs[k].has = false := h3
        rw [h3] at hsn
        rw [hsn, hlk]; simp
      rintro _ m2 _ ⟨q2, cq2, l2, rfl, hl2, hrl2, hr2⟩
      refine .env (by (try simp only [liE, letsOf, letU, snd, List.append_nil]); rfl) (.again rfl ⟨n1 - 1, by omega, i + 1, q2, cq2, l2, ?_, by omega, hl2, hrl2, hr2⟩)
      (simp only [evE, liE, letsOf, letU, snd, Sh.uss, Sh.us, atAddr, map_add0, List.append_nil]); rw [add_i64 i (by omega)]
    · rw [List.take_of_length_le (by omega)] at hlk
      have hll : l.length ≤ 64 := by rw [hlk]; have := knownF_len t k; omega
      have hE : endK t k = endW (l.map (·.w)) := by unfold endK; rw [hlk]
      have hlm : ∀ x ∈ l, WordAt c.R x.p x.w ∧ x.w.length ≤ 32 := fun x hx => by
        rw [hlk] at hx
        obtain ⟨r, hr, f, hf, rfl⟩ := knownF_mem hx
        exact ⟨(hp.2 r hr).2 f hf, hw r hr f hf⟩
      refine .loop (fun n us mm => ∃ (i : Nat) (ys : List Int), us = [.i i] ∧ n + i = l.length ∧ ys.length = n0 ∧ (∀ j, j < n0 → j ≠ k → ys[j]? = xs[j]?) ∧ ys[k]? = some (if h : i = 0 ∨ l.length = 0 then (0 : Int) else ((endN (l[0]'(by omega)).w ((l.take i).map (·.w)) : Nat) : Int)) ∧ Row mm 22 1 q cq l.length (l.map WD.v) ∧ Row mm 3 1 (some ⟨gb, 0, none⟩) n0 n0 (ys.map (.int .i64))) l.length
        ⟨0, xs, rfl, rfl, hxl, fun _ _ _ => rfl, by rw [hx k hk]; simp, hrl, hr⟩ ?_
      clear hrl hr
      rintro n2 _ m _ ⟨i2, ys, rfl, hn2, hyl, hyo, hyk, hrl, hr⟩
      refine .env (by (try simp only [liE, letsOf, letU, snd, List.append_nil]); rfl) (.ite (fun h3 => ?_) (fun h3 => .again rfl ⟨n - 1, by omega, k + 1, ys, ?_, by omega, hyl, fun j hj => ?_, hr⟩)) <;> ((try simp only [evE, liE, letsOf, letU, snd] at h3); (try simp only [cmE] at h3))
      · have hi : i2 < l.length := by omega
        have hl0 : 0 < l.length := by omega
        have hwi := hlm _ (List.getElem_mem hi)
        have hw0 := hlm _ (List.getElem_mem hl0)
        refine .loadWD l i2 hi (fun g => hrl.reads g) (.env (by (try simp only [liE, letsOf, letU, snd, List.append_nil]); rfl) ?_)
        refine .loop (fun n us mm => ∃ j : Nat, us = [.i j] ∧ n + j = l[i2].w.length ∧ j ≤ l[0].w.length ∧ csl l[i2].w l[0].w = j + cpl (l[i2].w.reverse.drop j) (l[0].w.reverse.drop j) ∧ m = mm) l[i2].w.length ⟨0, rfl, rfl, Nat.zero_le _, by simp [csl], rfl⟩ ?_
        rintro n3 _ _ _ ⟨j, rfl, hn3, hj0, hcs, rfl⟩
        refine .env (by (try simp only [liE, letsOf, letU, snd, List.append_nil]); rfl) (.join (fun us mm => m = mm ∧ ∃ x : Bool, us = [.b x] ∧ (x = true ↔ ∃ (ha : j < l[i2].w.length) (hb : j < l[0].w.length), l[i2].w[l[i2].w.length - 1 - j] = l[0].w[l[0].w.length - 1 - j])) (.chk (by ((try simp only [evE, liE, letsOf, letU, snd]); (try simp only [cmE])); omega) (.ite (fun h4 => ?_) (fun h4 => .again rfl ⟨rfl, false, (by (simp only [evE, liE, letsOf, letU, snd, Sh.uss, Sh.us, atAddr, map_add0, List.append_nil]) <;> rfl), ?_⟩))) ?_)
        · ((try simp only [evE, liE, letsOf, letU, snd] at h4); (try simp only [cmE] at h4))
          refine .loadWD0 l hl0 (fun g => hrl.reads g) (.env (by (try simp only [liE, letsOf, letU, snd, List.append_nil]); rfl) (.chk (by ((try simp only [evE, liE, letsOf, letU, snd]); (try simp only [cmE])); omega) (.ite (fun h5 => .chk (by ((try simp only [evE, liE, letsOf, letU, snd]); (try simp only [cmE])); omega) ?_) (fun h5 => .again rfl ⟨rfl, false, (by (simp only [evE, liE, letsOf, letU, snd, Sh.uss, Sh.us, atAddr, map_add0, List.append_nil]) <;> rfl), ?_⟩))))
          · ((try simp only [evE, liE, letsOf, letU, snd] at h5); (try simp only [cmE] at h5))
            have ha : j < l[i2].w.length := by omega
            have hb : j < l[0].w.length := by omega
            have e01 : ar .sub .i64 (l[i2].w.length : Int) 1 = ((l[i2].w.length - 1 : Nat) : Int) := by rw [subI (by omega) (by omega)]; omega
            have e02 : ar .sub .i64 (l[0].w.length : Int) 1 = ((l[0].w.length - 1 : Nat) : Int) := by rw [subI (by omega) (by omega)]; omega
            have e1 : ar .sub .i64 (ar .sub .i64 (l[i2].w.length : Int) 1) (j : Int) = ((l[i2].w.length - 1 - j : Nat) : Int) := by rw [e01, subI (by omega) (by omega)]; omega
            have e2 : ar .sub .i64 (ar .sub .i64 (l[0].w.length : Int) 1) (j : Int) = ((l[0].w.length - 1 - j : Nat) : Int) := by rw [e02, subI (by omega) (by omega)]; omega
            refine .loadW l[i2].w (l[i2].w.length - 1 - j) (by omega) (fun g => hwi.1.mono g.R) ?_ (hI := (show ar .sub .i64 (ar .sub .i64 (l[i2].w.length : Int) 1) (j : Int) = _ from e1))
            refine .env (by (try simp only [liE, letsOf, letU, snd, List.append_nil]); rfl) (.loadWD0 l hl0 (fun g => hrl.reads g) (.env (by (try simp only [liE, letsOf, letU, snd, List.append_nil]); rfl) (.loadWD0 l hl0 (fun g => hrl.reads g) (.env (by (try simp only [liE, letsOf, letU, snd, List.append_nil]); rfl) (.chk (by ((try simp only [evE, liE, letsOf, letU, snd]); (try simp only [cmE])); omega) ?_)))))
            refine .loadW l[0].w (l[0].w.length - 1 - j) (by omega) (fun g => hw0.1.mono g.R) ?_ (hI := (show ar .sub .i64 (ar .sub .i64 (l[0].w.length : Int) 1) (j : Int) = _ from e2))
            refine .again rfl ⟨rfl, (bif cm .eql (l[i2].w[l[i2].w.length - 1 - j].1 : Int) (l[0].w[l[0].w.length - 1 - j].1 : Int) then cm .eql (l[i2].w[l[i2].w.length - 1 - j].2 : Int) (l[0].w[l[0].w.length - 1 - j].2 : Int) else false), rfl, ?_⟩
            rw [pick_and]
            simp only [cm, Bool.and_eq_true, beq_iff_eq, ha, hb, exists_true_left]
            exact snd_eq
          · ((try simp only [evE, liE, letsOf, letU, snd] at h5); (try simp only [cmE] at h5))
            simp only [Bool.false_eq_true, false_iff]
            rintro ⟨ha, hb, _⟩; omega
        · ((try simp only [evE, liE, letsOf, letU, snd] at h4); (try simp only [cmE] at h4))
          simp only [Bool.false_eq_true, false_iff]
          rintro ⟨ha, hb, _⟩; omega
        rintro _ _ _ ⟨rfl, x, rfl, hxx⟩
        refine .env (by (try simp only [liE, letsOf, letU, snd, List.append_nil]); rfl) (.ite (fun h4 => .again rfl ⟨n3 - 1, ?_, j + 1, ?_, ?_, ?_, ?_, rfl⟩) (fun h4 => ?_))
        · obtain ⟨ha, hb, _⟩ := hxx.1 h4; omega
        · obtain ⟨ha, hb, _⟩ := hxx.1 h4
          (simp only [evE, liE, letsOf, letU, snd, Sh.uss, Sh.us, atAddr, map_add0, List.append_nil]); rw [add_i64 j (by omega)]
        · obtain ⟨ha, hb, _⟩ := hxx.1 h4; omega
        · obtain ⟨ha, hb, _⟩ := hxx.1 h4; omega
        · obtain ⟨ha, hb, e⟩ := hxx.1 h4
          rw [hcs, csl_at ha hb, if_pos e]; omega
        replace h4 : x = false := h4
        subst h4
        have hcj : csl l[i2].w l[0].w = j := by
          rw [hcs]
          rcases Nat.lt_or_ge j l[i2].w.length with ha | ha
          · rcases Nat.lt_or_ge j l[0].w.length with hb | hb
            · rw [csl_at ha hb, if_neg fun e => by cases hxx.2 ⟨ha, hb, e⟩]; omega
            · rw [csl_end (.inr hb)]; omega
          · rw [csl_end (.inl ha)]; omega
        have hstep : endN l[0].w ((l.take (i2 + 1)).map (·.w)) = min (endN l[0].w ((l.take i2).map (·.w))) j := by
          rw [List.map_take, List.map_take, endN_snoc (by simpa using hi)]
          simp only [List.getElem_map]
          rw [hcj]
        have hE0 : i2 = 0 → endN l[0].w ((l.take i2).map (·.w)) = l[0].w.length := by rintro rfl; rfl
        have hyk' : i2 ≠ 0 → ys[k]? = some ((endN l[0].w ((l.take i2).map (·.w)) : Nat) : Int) := fun h => by rw [hyk, dif_neg (by omega)]
        generalize endN l[0].w ((l.take i2).map (·.w)) = E at *
        refine .join (fun us mm => m = mm ∧ us = [.b (decide (i2 = 0 ∨ j < E))]) (.ite (fun h5 => .again rfl ⟨rfl, ?_⟩) (fun h5 => ?_)) ?_
        · ((try simp only [evE, liE, letsOf, letU, snd] at h5); (try simp only [cmE] at h5))
          (simp only [evE, liE, letsOf, letU, snd, Sh.uss, Sh.us, atAddr, map_add0, List.append_nil])
          have : i2 = 0 ∨ j < E := .inl (by omega)
          rw [decide_eq_true this]
        · ((try simp only [evE, liE, letsOf, letU, snd] at h5); (try simp only [cmE] at h5))
          have h6 : i2 ≠ 0 := by omega
          refine .elem1 (.int .i64 (E : Int)) (ys.map (.int .i64)) k n0 rfl rfl hk (fun g => hr.reads g) (by rw [List.getElem?_map, hyk' h6]; rfl) (.again rfl ⟨rfl, ?_⟩)
          show [U.b (cm .lss (j : Int) (E : Int))] = _
          simp [cm, h6]
        rintro _ _ _ ⟨rfl, rfl⟩
        refine .env (by (try simp only [liE, letsOf, letU, snd, List.append_nil]); rfl) (.join (fun us mm => us = [] ∧ ∃ ys' : List Int, ys'.length = n0 ∧ (∀ j', j' < n0 → j' ≠ k → ys'[j']? = xs[j']?) ∧ ys'[k]? = some ((min E j : Nat) : Int) ∧ Row mm 22 1 q cq l.length (l.map WD.v) ∧ Row mm 3 1 (some ⟨gb, 0, none⟩) n0 n0 (ys'.map (.int .i64))) (.ite (fun h5 => ?_) (fun h5 => .again rfl ⟨rfl, ys, hyl, hyo, ?_, hrl, hr⟩)) ?_)
        · replace h5 := of_decide_eq_true h5
          refine .storeR k hk hr rfl rfl rfl (fun m' g hq hr' ho => .again rfl ⟨rfl, ys.set k j, by rw [List.length_set]; exact hyl, fun j' hj' hne => ?_, ?_, hrl.keep fun g2 hg2 _ => ?_, ?_⟩)
          · rw [List.getElem?_set, if_neg (fun e => hne e.symm)]; exact hyo j' hj' hne
          · rw [List.getElem?_set, if_pos rfl, if_pos (by omega)]
            have : min E j = j := by
              rcases h5 with h | h
              · rw [hE0 h]; omega
              · omega
            rw [this]
          · refine ho g2 fun e => ?_
            cases hq
            obtain ⟨cur, hcur⟩ := hrl.at_cells hg2
            obtain ⟨cur2, hcur2⟩ := hr.at_cells rfl
            rw [e, hcur2] at hcur; cases hcur
          · rw [List.map_set]; exact hr'
        · replace h5 := of_decide_eq_false h5
          rw [hyk' (by omega)]
          have : min E j = E := by omega
          rw [this]
        rintro _ m2 _ ⟨rfl, ys2, hy1, hy2, hy3, hy4, hy5⟩
        refine .env (by (try simp only [liE, letsOf, letU, snd, List.append_nil]); rfl) (.again rfl ⟨n2 - 1, by omega, i2 + 1, ys2, ?_, by omega, hy1, hy2, ?_, hy4, hy5⟩)
        · (simp only [evE, liE, letsOf, letU, snd, Sh.uss, Sh.us, atAddr, map_add0, List.append_nil]); rw [add_i64 i2 (by omega)]
        · rw [hy3, dif_neg (by omega), hstep]
      · (simp only [evE, liE, letsOf, letU, snd, Sh.uss, Sh.us, atAddr, map_add0, List.append_nil]); rw [add_i64 k (by omega)]
      · by_cases e : j = k
        · subst e
          rw [hyk, if_pos (by omega), hE]
          by_cases h4 : l.length = 0
          · rw [dif_pos (.inr h4)]
            have : l = [] := List.length_eq_zero_iff.1 h4
            subst this; rfl
          · rw [dif_neg (by omega), List.take_of_length_le (show l.length ≤ i2 by omega), endW_at (by simp; omega)]
            simp
        · rw [hyo j hj e, hx j hj]
          by_cases h4 : j < k
          · rw [if_pos h4, if_pos (by omega)]
          · rw [if_neg h4, if_neg (by omega)]
  · have : xs.map (Value.int .i64) = (List.range n0).map fun k => .int .i64 (endK t k : Nat) := by
      apply List.ext_getElem?
      intro j
      rw [List.getElem?_map, List.getElem?_map]
      rcases Nat.lt_or_ge j n0 with hj | hj
      · rw [hx j hj, if_pos (by omega), List.getElem?_range hj]; rfl
      · rw [List.getElem?_eq_none (by omega), List.getElem?_eq_none (by simpa using hj)]; rfl
    rw [← this]; exact hr
end Go.Proofs.YtpbbnmjkbfbelaaDoor
/- Chapter 30: Clone; a store of a word into a row of forms. -/
namespace Go.Sy
open Go Go.RowKit
theorem run_slnil {P : Program} {t e ty : TypeId} {x y : Operand} {z : TypeId} {q : Option Addr} {n cap : Nat} {w : World} (h : P.underlying t = some (.slice e)) : (XOp.sem (.binOp .eql t x y z) ty [slv q n cap, .slice none 0 0]).run P w = .ok (.value (.bool q.isNone)) w := by
  show (do pure (Next.value (← (do eqGuard .eql t x y (slv q n cap) (.slice none 0 0); binOp .eql t (slv q n cap) (.slice none 0 0)))) : Sem Next).run P w = _
  have h1 : (eqGuard .eql t x y (slv q n cap) (.slice none 0 0)).run P w = .ok () w := by cases q <;> rfl
  have h2 : (binOp .eql t (slv q n cap) (.slice none 0 0)).run P w = .ok (.bool q.isNone) w := by
    rw [show slv q n cap = Value.slice q n cap by cases q <;> rfl]
    simp only [binOp]
    simp [Op.equal, Op.maxDepth, Lib.run_equalIn_slice_nil w 9999 t e q n cap 0 0 h]
  simp only [Sem.run_bind, h1, Result.andThen_ok, h2]
  rfl
section
variable {P : Program} {c : Cx} {L : List Nat} {ρ : Env} {blks : List Blk} {m : Mem} {R : Value → HW → Prop} {Dn : Nat → List U → HW → Prop} {A : List (List U → HW → Prop)}
/-- A slice is compared with nil. -/
theorem DenM.isNil {t e ty : TypeId} {x y : Operand} {z : TypeId} {sv : SV} {k : Tree} (q : Option Addr) (n cap : Nat) (h : P.underlying t = some (.slice e)) (hk : DenM P R Dn k L (ρ ++ [.b q.isNone]) c m A) (hv : sv.den L ρ = slv q n cap := by rfl) : DenM P R Dn (.extp ⟨.binOp .eql t x y z, ty, [sv, .cst (.slice none 0 0)]⟩ .bool blks k) L ρ c m A := .extp [.b q.isNone] ⟨_, rfl⟩ (fun g w hw => by
  have e1 := getElem_env ρ [.b q.isNone] 0
  rw [Nat.add_zero] at e1
  simp only [SV.dens, Sh.fresh, SV.den, BT.eval, Env.bool]
  rw [hv, e1]
  exact run_slnil h) hk
/-- A word is stored into a form of a row, at a place that is checked twice. -/
theorem DenM.storeFW {i : Nat} {I len : IT} {x : SV} {k : Tree} {q : Option Addr} {cap : Nat} {l : List FD} (w : WD) (j : Nat) (hj : j < l.length) (hR : Row m 41 2 q cap l.length (fcells l)) (hx : x.den L ρ = w.v) (hk : ∀ m' g, q = some ⟨g, 0, none⟩ → Row m' 41 2 q cap l.length (fcells (l.set j ⟨l[j].has, w⟩)) → (∀ b, b ≠ g → m' b = m b) → DenM P R Dn k L ρ c m' A)
    (hp : ρ.ptr i = q := by rfl) (hI : I.eval ρ = (j : Int) := by rfl) (hn : len.eval ρ = (l.length : Int) := by rfl) :
    DenM P R Dn (.chk (.pick (.cmp .geq I (.lit 0)) (.pick (.cmp .lss I len) (.some i) (.lit false)) (.lit false)) (.chk (.pick (.cmp .geq (.off I 2 (.lit 0)) (.lit 0)) (.some i) (.lit false)) (.store false i (.off (.lit 1) 1 (.off I 2 (.lit 0))) [x] blks k))) L ρ c m A := by
  rcases hR.2 with ⟨_, h, _⟩ | ⟨g, cur, hq, hg, h1, h2, h3, h4⟩
  · omega
  · subst hq
    have hlen := hR.1
    have hset : fcells (l.set j ⟨l[j].has, w⟩) = (fcells l).set (j * 2 + 1) w.v := by
      have : ∀ (l : List FD) (j : Nat) (hj : j < l.length), fcells (l.set j ⟨l[j].has, w⟩) = (fcells l).set (j * 2 + 1) w.v := fun l => by
        induction l with
        | nil => intro j hj; simp at hj
        | cons y l ih =>
          intro j hj
          cases j with
          | zero => rfl
          | succ j =>
            have := ih j (by simpa using hj)
            simp only [fcells, List.set_cons_succ, List.flatMap_cons, List.cons_append, List.nil_append, List.getElem_cons_succ] at this ⊢
            rw [this, show (j + 1) * 2 = (j * 2 + 1) + 1 by omega, List.set_cons_succ]
      exact this l j hj
    refine .chk ?_ (.chk ?_ (.store g (j * 2 + 1) cur 41 rfl ?_ hg (by simp; omega) (hk _ g rfl ⟨by rw [hset, List.length_set]; exact hlen, .inr ⟨g, _, rfl, Mem.upd_same _ _ _, h1, h2, ?_, ?_⟩⟩ fun b hb => Mem.upd_other _ _ hb)))
    · simp only [BT.eval, IT.eval, hI, hn, hp, cm, pick_and]; simp; omega
    · simp only [BT.eval, IT.eval, hI, hp, cm, pick_and]; simp; omega
    · simp only [atAddr, hp, IT.eval, hI, Option.map_some, addr_add]
      rw [show ((0 : Int) + (j : Int) * ((2 : Nat) : Int) + (1 : Int) * ((1 : Nat) : Int)).toNat = j * 2 + 1 by omega]; simp
    · simp only [putAt, SV.dens, List.size_toArray, List.length_append, List.length_take, List.length_drop, List.length_cons, List.length_nil, Array.length_toList]; omega
    · have hput : putAt cur.toList (j * 2 + 1) (SV.dens L ρ [x]) = cur.toList.set (j * 2 + 1) (x.den L ρ) := by
        unfold putAt
        rw [List.set_eq_take_append_cons_drop, if_pos (by simp; omega)]
        simp [SV.dens]
      rw [hput, List.take_set, h4, hset, hx]
end
end Go.Sy
namespace Go.Proofs.YtpbbnmjkbfbelaaDoor
open Go Go.Sy Go.RowKit
theorem el39 : El Tryd.prog 39 41 2 32 := El.of (by kernel_rfl)
theorem el42 : El Tryd.prog 42 39 1 24 := El.of (by kernel_rfl)
theorem el38 : El Tryd.prog 38 39 1 24 := El.of (by kernel_rfl)
theorem fcells_one (l : List FD) : ∀ u ∈ fcells l, u.oneCell' = true := fun u hu => by
  obtain ⟨x, _, hx⟩ := List.mem_flatMap.1 hu
  simp only [List.mem_cons, List.not_mem_nil, or_false] at hx
  rcases hx with rfl | rfl
  · rfl
  · unfold WD.v slv; cases x.w.p <;> rfl
theorem c_cloneS (X : WD) (ox : X.ok) (lx : X.w.length < 2 ^ 40) : FnM Tryd.prog n_slices_Clone___api_Sound_api_Sound_ [X.v] (fun R => WordAt R X.p X.w) fun v mq _ => ∃ q cq, v = slv q X.w.length cq ∧ RowW mq 31 q cq X.w := by
  refine FnM.of S_slices_Clone___api_Sound_api_Sound_ mx [.p X.p, .i X.w.length, .i X.cap] rfl rfl fun c hp => .isNil X.p X.w.length X.cap Tryd.underlying22 (.env (by (try simp only [liE, letsOf, letU, snd, List.append_nil]); rfl) (.ite (fun h1 => .ret rfl ?_) (fun h1 => .alloc fun b0 => ?_)))
  · replace h1 : X.p.isNone = true := h1
    have h2 := ox.nil (by simpa using h1)
    have h3 : X.w.length = 0 := by have := ox.le; omega
    have : X.w = [] := List.length_eq_zero_iff.1 h3
    rw [this]
    exact ⟨none, 0, rfl, .of (Row.nil _ _ _)⟩
  · refine .appendLit (b0 := b0) (qx := X.p) (kx := X.w.length) (capx := X.cap) (news := wcells X.w) el22 (fun g => hp.mono g.R) (wcells_len _) (wcells_one _) ox.nil (by simp [maxLen]; omega) (by omega) (fun q1 k1 m1 hr1 h01 _ => .env (by (try simp only [liE, letsOf, letU, snd, List.append_nil]); rfl) (.ret rfl ⟨q1, k1, rfl, fun hne => ?_, fun hq => ?_, ?_⟩))
    · exact hr1 fun h => hne (List.length_eq_zero_iff.1 h)
    · by_cases h : X.w.length = 0
      · exact (h01 h).2
      · exact row_cap0 (hr1 h) hq
    · by_cases h : X.w.length = 0
      · omega
      · exact (hr1 h).cap_le
theorem c_cloneF (q : Option Addr) (cq : Nat) (l : List FD) (hle : l.length ≤ cq) (hnil : q = none → cq = 0) (hl : l.length < 2 ^ 38) : FnM Tryd.prog n_slices_Clone___api_Form_api_Form_ [slv q l.length cq] (fun R => Cells R q (fcells l)) fun v mq _ => ∃ q' cq', v = slv q' l.length cq' ∧ (l ≠ [] → Row mq 41 2 q' cq' l.length (fcells l)) ∧ l.length ≤ cq' ∧ (q' = none → cq' = 0) := by
  refine FnM.of S_slices_Clone___api_Form_api_Form_ mx [.p q, .i l.length, .i cq] rfl rfl fun c hp => .isNil q l.length cq Tryd.underlying39 (.env (by (try simp only [liE, letsOf, letU, snd, List.append_nil]); rfl) (.ite (fun h1 => .ret rfl ?_) (fun h1 => .alloc fun b0 => ?_)))
  · replace h1 : q.isNone = true := h1
    have h2 := hnil (by simpa using h1)
    have : l = [] := List.length_eq_zero_iff.1 (by omega)
    rw [this]
    exact ⟨none, 0, rfl, fun h => absurd rfl h, Nat.le_refl _, fun _ => rfl⟩
  · refine .appendLit (b0 := b0) (qx := q) (kx := l.length) (capx := cq) (news := fcells l) el39 (fun g => hp.mono g.R) (fcells_len _) (fcells_one _) hnil (by simp [maxLen]; omega) (by omega) (fun q1 k1 m1 hr1 h01 _ => .env (by (try simp only [liE, letsOf, letU, snd, List.append_nil]); rfl) (.ret rfl ⟨q1, k1, rfl, fun hne => ?_, ?_, fun hq => ?_⟩))
    · exact hr1 fun h => hne (List.length_eq_zero_iff.1 h)
    · by_cases h : l.length = 0
      · omega
      · exact (hr1 h).cap_le
    · by_cases h : l.length = 0
      · exact (h01 h).2
      · exact row_cap0 (hr1 h) hq
end Go.Proofs.YtpbbnmjkbfbelaaDoor
/- Chapter 30: Level. -/
namespace Go.Sy
open Go Go.RowKit
def FD.data (f : FD) : Bool × List Snd := (f.has, f.w.w)
def LD.data (r : LD) : List (Bool × List Snd) := r.fs.map FD.data
def lvW (t : List LD) (base : List Snd) (k : Nat) (f : FD) : List Snd := base ++ f.w.w.drop (f.w.w.length - endK t k)
def lvF (t : List LD) (base : List Snd) (row i k : Nat) (f : FD) : Bool × List Snd := (f.has, if i = row ∧ f.has = true then lvW t base k f else f.w.w)
def lvRow (t : List LD) (base : List Snd) (row i : Nat) (r : LD) : List (Bool × List Snd) := r.fs.mapIdx fun k f => lvF t base row i k f
def lvTab (t : List LD) (base : List Snd) (row : Nat) : List (List (Bool × List Snd)) := t.mapIdx fun i r => lvRow t base row i r
def longF (x : Bool × List Snd) : Bool := decide (x.2.length > 32)
def levF (t : List LD) (row cell : Nat) (r : LD) (F : FD) : List (List (Bool × List Snd)) × Int :=
  if F.has = false then ([], 5) else if (lvRow t (F.w.w.take (F.w.w.length - endK t cell)) row row r).any longF = true then ([], 11) else (lvTab t (F.w.w.take (F.w.w.length - endK t cell)) row, 0)
def levR (t : List LD) (rw cl : Int) : List (List (Bool × List Snd)) × Int :=
  if checkT t ≠ 0 then ([], checkT t) else if rw < 0 ∨ rw ≥ t.length ∨ cl < 0 then ([], 3) else match t[rw.toNat]? with
    | none => ([], 3)
    | some r => match r.fs[cl.toNat]? with
      | none => ([], 3)
      | some F => levF t rw.toNat cl.toNat r F
/-- A row of forms of the call's own. -/
structure RowF (m : Mem) (q : Option Addr) (cap : Nat) (fs : List FD) : Prop where
  row : fs ≠ [] → Row m 41 2 q cap fs.length (fcells fs)
  le : fs.length ≤ cap
  nil : q = none → cap = 0
structure TabIn (m : Mem) (q : Option Addr) (cq : Nat) (rows : List LD) : Prop where
  row : Row m 39 1 q cq rows.length (rows.map LD.v)
  rows : ∀ r ∈ rows, RowF m r.p r.cap r.fs ∧ ∀ f ∈ r.fs, RowW m 31 f.w.p f.w.cap f.w.w
def TabR (mq : Mem) (v : Value) (r : List (List (Bool × List Snd)) × Int) : Prop := ∃ q cq rows, v = .tuple #[slv q rows.length cq, .int .i64 r.2] ∧ rows.map LD.data = r.1 ∧ TabIn mq q cq rows
theorem TabR.none (mq : Mem) (e : Int) : TabR mq (.tuple #[.slice .none 0 0, .int .i64 e]) ([], e) := ⟨.none, 0, [], rfl, rfl, Row.nil _ _ _, by simp⟩
theorem RowF.keepT {m m' : Mem} {q : Option Addr} {cap : Nat} {fs : List FD} (h : RowF m q cap fs) (hk : ∀ b cur, q = some ⟨b, 0, none⟩ → m b = some (.cells cur 41 (0, 0)) → fs ≠ [] → m' b = m b) : RowF m' q cap fs := ⟨fun hw => by
  have hr := h.row hw
  refine ⟨hr.1, ?_⟩
  rcases hr.2 with h2 | ⟨g, cur, h1, h2, h3⟩
  · exact .inl h2
  · exact .inr ⟨g, cur, h1, (hk g cur h1 h2 hw).trans h2, h3⟩, h.le, h.nil⟩
theorem RowF.joinL {m mq : Mem} {q : Option Addr} {cap : Nat} {fs : List FD} (h : RowF m q cap fs) : RowF (m.join mq) q cap fs := h.keepT fun b cur _ hb _ => Mem.join_old (by rw [hb]; simp)
theorem TabIn.keepT {m m' : Mem} {q : Option Addr} {cq : Nat} {rows : List LD} (h : TabIn m q cq rows) (h39 : ∀ b cur, m b = some (.cells cur 39 (0, 0)) → m' b = m b) (h31 : ∀ b cur, m b = some (.cells cur 31 (0, 0)) → m' b = m b) (h41 : ∀ r ∈ rows, ∀ b cur, r.p = some ⟨b, 0, none⟩ → m b = some (.cells cur 41 (0, 0)) → r.fs ≠ [] → m' b = m b) : TabIn m' q cq rows := by
  refine ⟨?_, fun r hr => ⟨(h.rows r hr).1.keepT fun b cur hb => h41 r hr b cur hb, fun f hf => ((h.rows r hr).2 f hf).keepT h31⟩⟩
  refine h.row.keep fun g hq _ => ?_
  obtain ⟨cur, hcur⟩ := h.row.at_cells hq
  exact h39 g cur hcur
theorem TabIn.joinL {m mq : Mem} {q : Option Addr} {cq : Nat} {rows : List LD} (h : TabIn m q cq rows) : TabIn (m.join mq) q cq rows := h.keepT (fun b cur hb => Mem.join_old (by rw [hb]; simp)) (fun b cur hb => Mem.join_old (by rw [hb]; simp)) fun _ _ b cur _ hb _ => Mem.join_old (by rw [hb]; simp)
theorem checkT_zero {t : List LD} (h : checkT t = 0) : t.length ≤ 64 ∧ (∀ r ∈ t, r.fs.length ≤ 16) ∧ (∀ (h0 : 0 < t.length), ∀ r ∈ t, r.fs.length = t[0].fs.length) ∧ ∀ r ∈ t, ∀ f ∈ r.fs, f.w.w.length ≤ 32 := by
  unfold checkT at h
  split at h
  · rename_i h1; exact absurd h h1
  · rename_i h1
    simp only [ne_eq, Decidable.not_not] at h1
    unfold tshape at h1
    split at h1
    · cases h1
    · rename_i h2
      split at h1
      · cases h1
      · rename_i h3
        simp only [not_or, Bool.not_eq_true] at h2 h3
        rw [List.any_eq_false] at h3
        have h2' := List.any_eq_false.1 h2.2
        refine ⟨by omega, fun r hr => ?_, fun h0 r hr => ?_, fun r hr f hf => checkL_all h _ (List.mem_flatMap.2 ⟨r, hr, List.mem_map_of_mem hf⟩)⟩
        · have := h2' r hr
          simp only [wide, decide_eq_true_eq] at this; omega
        · have := h3 r hr
          rw [head_len h0] at this
          simp only [badRow, Bool.or_eq_true, decide_eq_true_eq, not_or, ne_eq, Decidable.not_not] at this
          exact this.1
theorem lvRow_at {t : List LD} {base : List Snd} {row i k : Nat} {r : LD} (hk : k < r.fs.length) : (lvRow t base row i r)[k]? = some (lvF t base row i k r.fs[k]) := by
  unfold lvRow
  rw [List.getElem?_mapIdx, List.getElem?_eq_getElem hk]; rfl
theorem lvRow_len (t : List LD) (base : List Snd) (row i : Nat) (r : LD) : (lvRow t base row i r).length = r.fs.length := by simp [lvRow]
theorem lvTab_take {t : List LD} {base : List Snd} {row i : Nat} (hi : i < t.length) : (lvTab t base row).take (i + 1) = (lvTab t base row).take i ++ [lvRow t base row i t[i]] := by
  have hl : i < (lvTab t base row).length := by simpa [lvTab] using hi
  rw [List.take_succ_eq_append_getElem hl]
  congr 2
  simp [lvTab]
theorem endN_mem {h w : List Snd} {l : List (List Snd)} (hw : w ∈ l) : endN h l ≤ csl w h := by
  have key : ∀ (l : List (List Snd)) (n : Nat), l.foldl (fun n w => min n (csl w h)) n ≤ n ∧ (w ∈ l → l.foldl (fun n w => min n (csl w h)) n ≤ csl w h) := fun l => by
    induction l with
    | nil => intro n; exact ⟨Nat.le_refl _, fun h => by simp at h⟩
    | cons x l ih =>
      intro n
      rw [List.foldl_cons]
      have := ih (min n (csl x h))
      refine ⟨Nat.le_trans this.1 (Nat.min_le_left ..), fun hx => ?_⟩
      rcases List.mem_cons.1 hx with rfl | hx
      · exact Nat.le_trans this.1 (Nat.min_le_right ..)
      · exact this.2 hx
  exact (key l _).2 hw
theorem endK_le {t : List LD} {k : Nat} {r : LD} {f : FD} (hr : r ∈ t) (hf : r.fs[k]? = some f) (hh : f.has = true) : endK t k ≤ f.w.w.length := by
  have hm : f.w ∈ knownF t k := List.mem_filterMap.2 ⟨r, hr, by rw [hf]; simp [hh]⟩
  have hm' : f.w.w ∈ (knownF t k).map (·.w) := List.mem_map_of_mem hm
  unfold endK
  generalize (knownF t k).map (·.w) = l at hm'
  cases l with
  | nil => simp at hm'
  | cons h l =>
    have := endN_mem (h := h) hm'
    have h2 := (csl_le f.w.w h).1
    exact Nat.le_trans this h2
theorem level_store {m m' : Mem} {qn : Option Addr} {cn g : Nat} {now : List FD} {qo : Option Addr} {co : Nat} {rows : List LD} (hq : qn = some ⟨g, 0, none⟩) (hNow : RowF m qn cn now) (hne : now ≠ []) (ho : ∀ b, b ≠ g → m' b = m b) (hap : ∀ r ∈ rows, ∀ b, r.fs ≠ [] → r.p = some ⟨b, 0, none⟩ → qn ≠ some ⟨b, 0, none⟩) (hT : TabIn m qo co rows) :
    TabIn m' qo co rows ∧ (∀ q c w, RowW m 31 q c w → RowW m' 31 q c w) ∧ ∀ q c n xs, Row m 3 1 q c n xs → Row m' 3 1 q c n xs := by
  obtain ⟨cur, hcur⟩ := (hNow.row hne).at_cells hq
  have hk : ∀ b cur e, e ≠ 41 → m b = some (.cells cur e (0, 0)) → m' b = m b := fun b cur' e he hb => ho b fun h => by
    rw [h, hcur] at hb; cases hb; exact he rfl
  refine ⟨hT.keepT (fun b cur hb => hk b cur 39 (by decide) hb) (fun b cur hb => hk b cur 31 (by decide) hb) fun r hr b cur hrp hb hrne => ho b fun h => hap r hr b hrne hrp (by rw [hq, h]), fun q c w h => h.keepT fun b cur hb => hk b cur 31 (by decide) hb, fun q c n xs h => h.keep fun g2 hg2 _ => ?_⟩
  obtain ⟨cur2, hcur2⟩ := h.at_cells hg2
  exact hk g2 cur2 3 (by decide) hcur2
theorem take_set_snoc {α : Type} {l : List α} {k : Nat} {x : α} (hk : k < l.length) : (l.set k x).take (k + 1) = l.take k ++ [x] := by
  have h2 : k < (l.set k x).length := by simpa using hk
  rw [List.take_succ_eq_append_getElem h2, List.getElem_set_self, List.take_set]
  congr 1
  rw [List.set_eq_of_length_le (by simp; omega)]
theorem lvRow_take {t : List LD} {base : List Snd} {row i k : Nat} {r : LD} (hk : k < r.fs.length) : (lvRow t base row i r).take (k + 1) = (lvRow t base row i r).take k ++ [lvF t base row i k r.fs[k]] := by
  have h2 : k < (lvRow t base row i r).length := by rw [lvRow_len]; exact hk
  rw [List.take_succ_eq_append_getElem h2]
  have := lvRow_at (t := t) (base := base) (row := row) (i := i) hk
  rw [List.getElem?_eq_getElem h2] at this
  rw [Option.some.inj this]
end Go.Sy
namespace Go.Proofs.YtpbbnmjkbfbelaaDoor
open Go Go.Sy Go.RowKit
set_option maxHeartbeats 4000000 in
theorem c_Level (p : Option Addr) (cp : Nat) (t : List LD) (rw cl : Int) (hl : t.length < 2 ^ 62) (hf : ∀ r ∈ t, r.fs.length < 2 ^ 62 ∧ r.fs.length ≤ r.cap ∧ (r.p = none → r.cap = 0)) (hok : FormsOk t) : FnM Tryd.prog n_analogy_Level [slv p t.length cp, .int .i64 rw, .int .i64 cl] (fun R => TableAt R p t) fun v mq _ => TabR mq v (levR t rw cl) := by
  refine FnM.of S_analogy_Level mx [.p p, .i t.length, .i cp, .i rw, .i cl] rfl rfl fun c hp => .callV (c_Check p cp t hl (fun r hr => (hf r hr).1) hok) (fun g => hp.mono g.R) (.env (by (try simp only [liE, letsOf, letU, snd, List.append_nil]); rfl) (.ite (fun h1 => .ret rfl ?_) (fun h1 => ?_))) <;> ((try simp only [evE, liE, letsOf, letU, snd] at h1); (try simp only [cmE] at h1))
  · have : levR t rw cl = ([], checkT t) := by unfold levR; rw [if_pos h1]
    rw [this]; exact TabR.none _ _
  rw [h1]
  obtain ⟨l64, l16, leq, l32⟩ := checkT_zero h1
  have hR : levR t rw cl = if rw < 0 ∨ rw ≥ t.length ∨ cl < 0 then ([], 3) else match t[rw.toNat]? with
    | none => ([], 3)
    | some r => match r.fs[cl.toNat]? with
      | none => ([], 3)
      | some F => levF t rw.toNat cl.toNat r F := by unfold levR; rw [if_neg (fun h => h h1)]
  refine .ite (fun h2 => .ret rfl ?_) (fun h2 => .chk (by ((try simp only [evE, liE, letsOf, letU, snd]); (try simp only [cmE])); omega) (.ite (fun h3 => .ret rfl ?_) (fun h3 => ?_))) <;> ((try simp only [evE, liE, letsOf, letU, snd] at h2); (try simp only [cmE] at h2))
  · rw [hR, if_pos (.inl h2)]; exact TabR.none _ _
  · replace h3 : (bif cm .geq rw (t.length : Int) then true else cm .lss cl 0) = true := h3
    have : rw < 0 ∨ rw ≥ t.length ∨ cl < 0 := by
      simp only [cm] at h3
      by_cases h : rw ≥ t.length
      · exact .inr (.inl h)
      · simp [h] at h3; exact .inr (.inr h3)
    rw [hR, if_pos this]; exact TabR.none _ _
  replace h3 : (bif cm .geq rw (t.length : Int) then true else cm .lss cl 0) = false := h3
  have h3' : rw < t.length ∧ 0 ≤ cl := by
    simp only [cm] at h3
    by_cases h : rw ≥ t.length
    · simp [h] at h3
    · simp [h] at h3; omega
  obtain ⟨row, rfl⟩ : ∃ n : Nat, rw = n := ⟨rw.toNat, by omega⟩
  obtain ⟨cell, rfl⟩ : ∃ n : Nat, cl = n := ⟨cl.toNat, by omega⟩
  have hrow : row < t.length := by omega
  have h0 : 0 < t.length := by omega
  rw [hR, if_neg (by omega), Int.toNat_natCast, Int.toNat_natCast, List.getElem?_eq_getElem hrow]
  clear hR
  have hprow := hp.2 _ (List.getElem_mem hrow)
  refine .loadLD t row hrow (fun g => hp.1.mono g.R) (.env (by (try simp only [liE, letsOf, letU, snd, List.append_nil]); rfl) (.chk (by ((try simp only [evE, liE, letsOf, letU, snd]); (try simp only [cmE])); omega) (.ite (fun h4 => .ret rfl ?_) (fun h4 => ?_)))) <;> ((try simp only [evE, liE, letsOf, letU, snd] at h4); (try simp only [cmE] at h4))
  · have : t[row].fs[cell]? = none := List.getElem?_eq_none (by omega)
    simp only [this]; exact TabR.none _ _
  have hcell : cell < t[row].fs.length := by omega
  simp only [List.getElem?_eq_getElem hcell]
  refine .loadLD t row hrow (fun g => hp.1.mono g.R) (.env (by (try simp only [liE, letsOf, letU, snd, List.append_nil]); rfl) (.loadFD t[row].fs cell hcell (fun g => hprow.1.mono g.R) (.env (by (try simp only [liE, letsOf, letU, snd, List.append_nil]); rfl) (.alloc fun a0 => .ite (fun h5 => .ret rfl ?_) (fun h5 => ?_)))))
  · replace h5 : (!t[row].fs[cell].has) = true := h5
    have : levF t row cell t[row] t[row].fs[cell] = ([], 5) := by unfold levF; rw [if_pos (by simpa using h5)]
    rw [this]; exact TabR.none _ _
  replace h5 : (!t[row].fs[cell].has) = false := h5
  have hlev : levF t row cell t[row] t[row].fs[cell] = if (lvRow t (t[row].fs[cell].w.w.take (t[row].fs[cell].w.w.length - endK t cell)) row row t[row]).any longF = true then ([], 11) else (lvTab t (t[row].fs[cell].w.w.take (t[row].fs[cell].w.w.length - endK t cell)) row, 0) := by unfold levF; rw [if_neg (by simpa using h5)]
  rw [hlev]
  clear hlev
  have hF := hok _ (List.getElem_mem hrow) _ (List.getElem_mem hcell)
  have hFl := l32 _ (List.getElem_mem hrow) _ (List.getElem_mem hcell)
  have hFat := hprow.2 _ (List.getElem_mem hcell)
  have hn0 := leq h0
  have hrn := hn0 _ (List.getElem_mem hrow)
  have h16 := l16 _ (List.getElem_mem h0)
  have hget : t[row].fs[cell]? = some t[row].fs[cell] := List.getElem?_eq_getElem hcell
  generalize t[row].fs[cell] = F at *
  refine .callM (c_endings p cp t t[0].fs.length h0 (by omega) hn0 h16 l32) rfl rfl (fun g => hp.mono g.R) ?_
  rintro v mq hfr ⟨qe, ce, rfl, hre⟩
  refine ⟨[.p qe, .i (t[0].fs.length : Nat), .i (ce : Nat)], ⟨_, _, _, rfl⟩, (slv_fresh _ _ _ _ _).symm, .env (by (try simp only [liE, letsOf, letU, snd, List.append_nil]); rfl) ?_⟩
  replace hre := hre.joinR (m := Mem.emp) fun b hb => rfl
  generalize Mem.emp.join mq = m at hre ⊢
  clear hfr
  have hEk : ∀ k, k < t[0].fs.length → ((List.range t[0].fs.length).map fun k => Value.int .i64 (endK t k : Nat))[k]? = some (.int .i64 (endK t k : Nat)) := fun k hk => by rw [List.getElem?_map, List.getElem?_range hk]; rfl
  have hcn : cell < t[0].fs.length := by omega
  have hEF : endK t cell ≤ F.w.w.length := endK_le (List.getElem_mem hrow) hget (by simpa using h5)
  refine .chk (by ((try simp only [evE, liE, letsOf, letU, snd]); (try simp only [cmE])); omega) (.elem1 (.int .i64 (endK t cell : Nat)) _ cell t[0].fs.length rfl rfl hcn (fun g => hre.reads g) (hEk cell hcn) (.env (by (try simp only [liE, letsOf, letU, snd, List.append_nil]); rfl) ?_))
  obtain ⟨nb, hnb⟩ : ∃ nb, nb = F.w.w.length - endK t cell := ⟨_, rfl⟩
  have enb : ar .sub .i64 (F.w.w.length : Int) (endK t cell : Nat) = (nb : Int) := by rw [subI (by omega) (by omega)]; omega
  have ofl := hF.2.le
  rw [← hnb]
  refine .chk ?_ (.chk (by ((try simp only [evE, liE, letsOf, letU, snd]); (try simp only [cmE])); omega) ?_)
  · show (bif cm .leq 0 (ar .sub .i64 (F.w.w.length : Int) (endK t cell : Nat)) then cm .leq (ar .sub .i64 (F.w.w.length : Int) (endK t cell : Nat)) (F.w.cap : Int) else false) = true
    rw [enb]
    simp only [cm, pick_and, Bool.and_eq_true, decide_eq_true_eq]; omega
  -- the rows
  refine .loop (fun n us mm => ∃ (i : Nat) (qo : Option Addr) (co : Nat) (rows : List LD), us = [.p none, .i 0, .i 0, .i 0, .p qo, .i rows.length, .i co, .i i] ∧ n + i = t.length ∧ rows.map LD.data = (lvTab t (F.w.w.take nb) row).take i ∧ rows.length = i ∧ TabIn mm qo co rows ∧
      (row < i → (lvRow t (F.w.w.take nb) row row t[row]).any longF = false) ∧ Row mm 3 1 qe ce t[0].fs.length ((List.range t[0].fs.length).map fun k => .int .i64 (endK t k : Nat))) t.length
    ⟨0, none, 0, [], rfl, rfl, by simp, rfl, ⟨Row.nil _ _ _, by simp⟩, fun h => by omega, hre⟩ ?_
  clear hre
  rintro n _ m _ ⟨i, qo, co, rows, rfl, hn, hrd, hrl, hT, hsh, hre⟩
  refine .env (by (try simp only [liE, letsOf, letU, snd, List.append_nil]); rfl) (.ite (fun h6 => ?_) (fun h6 => .ret rfl ?_)) <;> ((try simp only [evE, liE, letsOf, letU, snd] at h6); (try simp only [cmE] at h6))
  · have hi : i < t.length := by omega
    have hri := hn0 _ (List.getElem_mem hi)
    have hfi := hf _ (List.getElem_mem hi)
    have hpi := hp.2 _ (List.getElem_mem hi)
    refine .loadLD t i hi (fun g => hp.1.mono g.R) (.env (by (try simp only [liE, letsOf, letU, snd, List.append_nil]); rfl) (.callM (c_cloneF t[i].p t[i].cap t[i].fs hfi.2.1 hfi.2.2 (by omega)) rfl rfl (fun g => hpi.1.mono g.R) ?_))
    rintro v mq hfr ⟨qn, cn, rfl, hrn', hlen, hnil⟩
    refine ⟨[.p qn, .i (t[i].fs.length : Nat), .i (cn : Nat)], ⟨_, _, _, rfl⟩, (slv_fresh _ _ _ _ _).symm, .env (by (try simp only [liE, letsOf, letU, snd, List.append_nil]); rfl) (.chk (by ((try simp only [evE, liE, letsOf, letU, snd]); (try simp only [cmE])); omega) ?_)⟩
    have hap : ∀ r ∈ rows, ∀ b, r.fs ≠ [] → t[i].fs ≠ [] → r.p = some ⟨b, 0, none⟩ → qn ≠ some ⟨b, 0, none⟩ := fun r hr b hne hne2 hrp hq => by
      obtain ⟨cur, hcur⟩ := ((hT.rows r hr).1.row hne).at_cells hrp
      obtain ⟨cur2, hcur2⟩ := (hrn' hne2).at_cells hq
      have := (hfr b (by rw [hcur2]; simp)).1
      rw [hcur] at this; cases this
    have hNow : RowF (m.join mq) qn cn t[i].fs := ⟨fun hne => (hrn' hne).joinR fun b hb => (hfr b hb).1, hlen, hnil⟩
    replace hT := hT.joinL (mq := mq)
    replace hre := hre.joinL (mq := mq)
    generalize m.join mq = m1 at hNow hT hre ⊢
    clear hfr hrn' hlen hnil
    refine .loop (fun n us mm => ∃ (k : Nat) (now : List FD), us = [.p none, .i 0, .i 0, .i 0, .i k] ∧ n + k = t[i].fs.length ∧ now.length = t[i].fs.length ∧ (∀ j, k ≤ j → now[j]? = t[i].fs[j]?) ∧ (now.take k).map FD.data = (lvRow t (F.w.w.take nb) row i t[i]).take k ∧ (∀ f ∈ now.take k, RowW mm 31 f.w.p f.w.cap f.w.w) ∧ RowF mm qn cn now ∧ TabIn mm qo co rows ∧
        (i = row → ∀ x ∈ (lvRow t (F.w.w.take nb) row i t[i]).take k, longF x = false) ∧ Row mm 3 1 qe ce t[0].fs.length ((List.range t[0].fs.length).map fun k => .int .i64 (endK t k : Nat))) t[i].fs.length
      ⟨0, t[i].fs, rfl, rfl, rfl, fun _ _ => rfl, by simp, by simp, hNow, hT, fun _ => by simp, hre⟩ ?_
    clear hNow hT hre
    rintro n1 _ m _ ⟨k, now, rfl, hn1, hnl, hnow, hdat, hwk, hNow, hT, hshk, hre⟩
    refine .env (by (try simp only [liE, letsOf, letU, snd, List.append_nil]); rfl) (.ite (fun h7 => ?_) (fun h7 => .alloc fun a1 => ?_)) <;> ((try simp only [evE, liE, letsOf, letU, snd] at h7); (try simp only [cmE] at h7))
    · have hk : k < t[i].fs.length := by omega
      have hkn : k < now.length := by omega
      have hne : now ≠ [] := fun h => by rw [h] at hkn; simp at hkn
      have hnei : t[i].fs ≠ [] := fun h => by rw [h] at hk; simp at hk
      have hfk : now[k] = t[i].fs[k] := by
        have := hnow k (Nat.le_refl _)
        rw [List.getElem?_eq_getElem hkn, List.getElem?_eq_getElem hk] at this
        exact Option.some.inj this
      have hfo := hok _ (List.getElem_mem hi) _ (List.getElem_mem hk)
      have hfl := l32 _ (List.getElem_mem hi) _ (List.getElem_mem hk)
      have hfat := hpi.2 _ (List.getElem_mem hk)
      have hlk := lvRow_take (t := t) (base := F.w.w.take nb) (row := row) (i := i) hk
      have hgk : t[i].fs[k]? = some t[i].fs[k] := List.getElem?_eq_getElem hk
      have hap' : ∀ r ∈ rows, ∀ b, r.fs ≠ [] → r.p = some ⟨b, 0, none⟩ → qn ≠ some ⟨b, 0, none⟩ := fun r hr b h1 h2 => hap r hr b h1 hnei h2
      have hnlI : (t[i].fs.length : Int) = (now.length : Int) := by rw [hnl]
      refine .loadFD now k hkn (fun g => (hNow.row hne).reads g) (hn := hnlI) ?_
      rw [hfk]
      generalize hff : t[i].fs[k] = f at *
      refine .env (by (try simp only [liE, letsOf, letU, snd, List.append_nil]); rfl) (.alloc fun a1 => .callM (c_cloneS f.w hfo.2 (by omega)) rfl rfl (fun g => hfat.mono g.R) ?_)
      rintro v mq hfr ⟨q1, c1, rfl, hr1⟩
      refine ⟨[.p q1, .i (f.w.w.length : Nat), .i (c1 : Nat)], ⟨_, _, _, rfl⟩, (slv_fresh _ _ _ _ _).symm, .env (by (try simp only [liE, letsOf, letU, snd, List.append_nil]); rfl) ?_⟩
      replace hr1 := hr1.joinR (m := m) fun b hb => (hfr b hb).1
      replace hNow := hNow.joinL (mq := mq)
      replace hT := hT.joinL (mq := mq)
      replace hre := hre.joinL (mq := mq)
      replace hwk : ∀ f ∈ now.take k, RowW (m.join mq) 31 f.w.p f.w.cap f.w.w := fun f hf => (hwk f hf).joinL
      generalize m.join mq = m1 at *
      clear hfr
      refine .storeFW ⟨q1, c1, f.w.w⟩ k hkn (hNow.row hne) rfl (hn := hnlI) fun m2 g hq hrow2 ho => ?_
      rw [hfk] at hrow2
      obtain ⟨hT2, hW2, hI2⟩ := level_store hq hNow hne ho hap' hT
      replace hr1 := hW2 _ _ _ hr1
      replace hre := hI2 _ _ _ _ hre
      replace hwk : ∀ f ∈ now.take k, RowW m2 31 f.w.p f.w.cap f.w.w := fun f hf => hW2 _ _ _ (hwk f hf)
      have hNow2 : RowF m2 qn cn (now.set k ⟨f.has, ⟨q1, c1, f.w.w⟩⟩) := ⟨fun _ => by rw [List.length_set]; exact hrow2, by rw [List.length_set]; exact hNow.le, hNow.nil⟩
      clear hNow hT hW2 hI2 hrow2 ho hq
      have hset : ∀ (w : WD) j, k + 1 ≤ j → (now.set k ⟨f.has, w⟩)[j]? = t[i].fs[j]? := fun w j hj => by rw [List.getElem?_set, if_neg (by omega)]; exact hnow j (by omega)
      refine .ite (fun h8 => .again rfl ⟨n1 - 1, by omega, k + 1, now.set k ⟨f.has, ⟨q1, c1, f.w.w⟩⟩, ?_, by omega, by rw [List.length_set]; exact hnl, hset _, ?_, ?_, hNow2, hT2, ?_, hre⟩) (fun h8 => ?_)
      · (simp only [evE, liE, letsOf, letU, snd, Sh.uss, Sh.us, atAddr, map_add0, List.append_nil]); rw [add_i64 k (by omega)]
      · replace h8 : (bif cm .neq (i : Int) (row : Int) then true else !f.has) = true := h8
        have h9 : ¬ (i = row ∧ f.has = true) := fun ⟨e1, e2⟩ => by rw [e1, e2] at h8; simp [cm] at h8
        rw [take_set_snoc hkn, List.map_append, hdat, hlk]
        simp only [List.map_cons, List.map_nil, FD.data, lvF, if_neg h9]
      · intro x hx
        rw [take_set_snoc hkn] at hx
        rcases List.mem_append.1 hx with hx | hx
        · exact hwk x hx
        · simp at hx; subst hx; exact hr1
      · replace h8 : (bif cm .neq (i : Int) (row : Int) then true else !f.has) = true := h8
        intro e x hx
        rw [hlk] at hx
        rcases List.mem_append.1 hx with hx | hx
        · exact hshk e x hx
        · have h9 : ¬ (i = row ∧ f.has = true) := fun ⟨e1, e2⟩ => by rw [e1, e2] at h8; simp [cm] at h8
          simp only [List.mem_cons, List.not_mem_nil, or_false] at hx
          subst hx
          simp only [lvF, if_neg h9, longF]
          exact decide_eq_false (by omega)
      replace h8 : (bif cm .neq (i : Int) (row : Int) then true else !f.has) = false := h8
      have h9 : i = row ∧ f.has = true := by
        by_cases e : i = row
        · subst e
          simp [cm] at h8
          exact ⟨rfl, h8⟩
        · have : cm .neq (i : Int) (row : Int) = true := by simp [cm]; omega
          rw [this] at h8; cases h8
      have hEf := endK_le (List.getElem_mem hi) hgk h9.2
      have hkc : k < t[0].fs.length := by omega
      refine .chk (by ((try simp only [evE, liE, letsOf, letU, snd]); (try simp only [cmE])); omega) (.elem1 (.int .i64 (endK t k : Nat)) _ k t[0].fs.length rfl rfl hkc (fun g => hre.reads g) (hEk k hkc) (.env (by (try simp only [liE, letsOf, letU, snd, List.append_nil]); rfl) ?_))
      obtain ⟨ns, hns⟩ : ∃ ns, ns = f.w.w.length - endK t k := ⟨_, rfl⟩
      have ens : ar .sub .i64 (f.w.w.length : Int) (endK t k : Nat) = (ns : Int) := by rw [subI (by omega) (by omega)]; omega
      have ole := hfo.2.le
      have hcat : cat [F.w.upto nb, f.w.from ns] = lvW t (F.w.w.take nb) k f := by simp [cat, WD.from, WD.upto, lvW, hns]
      have hcl : (lvW t (F.w.w.take nb) k f).length ≤ 64 := by unfold lvW; simp only [List.length_append, List.length_take, List.length_drop]; omega
      refine .chk ?_ (.alloc fun a2 => .callM (c_concat (some ⟨a2, 0, none⟩) 2 [F.w.upto nb, f.w.from ns] ?_ (by simp) ?_) rfl rfl (fun g => ⟨g.cells (j := 2) rfl rfl ?_, ?_⟩) ?_)
      · show (bif cm .leq 0 (ar .sub .i64 (f.w.w.length : Int) (endK t k : Nat)) then (bif cm .leq (ar .sub .i64 (f.w.w.length : Int) (endK t k : Nat)) (f.w.w.length : Int) then cm .leq (f.w.w.length : Int) (f.w.cap : Int) else false) else false) = true
        rw [ens]
        simp only [cm, pick_and, Bool.and_eq_true, decide_eq_true_eq]; omega
      · simp only [List.mem_cons, List.not_mem_nil, or_false]
        rintro x (rfl | rfl)
        · exact WD.upto_ok hF.2 nb
        · exact WD.from_ok hfo.2 (by omega)
      · rw [hcat]; omega
      · simp only [SV.dens]
        rw [den_upto (x := F.w) (n := nb) rfl rfl (by show ar .sub .i64 (F.w.w.length : Int) (endK t cell : Nat) = _; exact enb) (by omega), den_from (x := f.w) (n := ns) rfl rfl (by show ar .sub .i64 (f.w.w.length : Int) (endK t k : Nat) = _; exact ens) rfl]; rfl
      · simp only [List.mem_cons, List.not_mem_nil, or_false]
        rintro x (rfl | rfl)
        · exact WordAt.upto (hFat.mono g.R) nb
        · exact WordAt.from (hfat.mono g.R) ole ns
      rintro v mq hfr ⟨q2, c2, rfl, hr2⟩
      rw [hcat] at hr2 ⊢
      have hlF : lvF t (F.w.w.take nb) row i k f = (f.has, lvW t (F.w.w.take nb) k f) := by unfold lvF; rw [if_pos h9]
      generalize lvW t (F.w.w.take nb) k f = nw at *
      refine ⟨[.p q2, .i (nw.length : Nat), .i (c2 : Nat)], ⟨_, _, _, rfl⟩, (slv_fresh _ _ _ _ _).symm, .env (by (try simp only [liE, letsOf, letU, snd, List.append_nil]); rfl) ?_⟩
      have hw2 : RowW (m2.join mq) 31 q2 c2 nw := (RowW.of hr2).joinR fun b hb => (hfr b hb).1
      replace hNow2 := hNow2.joinL (mq := mq)
      replace hT2 := hT2.joinL (mq := mq)
      replace hre := hre.joinL (mq := mq)
      replace hwk : ∀ f ∈ now.take k, RowW (m2.join mq) 31 f.w.p f.w.cap f.w.w := fun f hf => (hwk f hf).joinL
      generalize m2.join mq = m3 at *
      clear hfr hr1 hr2
      generalize hn2 : now.set k ⟨f.has, ⟨q1, c1, f.w.w⟩⟩ = now2 at *
      have hl2 : now2.length = now.length := by rw [← hn2, List.length_set]
      have hk2 : k < now2.length := by omega
      have hne2 : now2 ≠ [] := fun h => by rw [h] at hk2; simp at hk2
      have hg2 : now2[k].has = f.has := by subst hn2; rw [List.getElem_set_self]
      have hnlI2 : (t[i].fs.length : Int) = (now2.length : Int) := by rw [hl2, hnl]
      refine .storeFW ⟨q2, c2, nw⟩ k hk2 (hNow2.row hne2) rfl (hn := hnlI2) fun m4 g hq hrow2 ho => ?_
      obtain ⟨hT4, hW4, hI4⟩ := level_store hq hNow2 hne2 ho hap' hT2
      replace hw2 := hW4 _ _ _ hw2
      replace hre := hI4 _ _ _ _ hre
      replace hwk : ∀ f ∈ now.take k, RowW m4 31 f.w.p f.w.cap f.w.w := fun f hf => hW4 _ _ _ (hwk f hf)
      have hs2 : now2.set k ⟨now2[k].has, ⟨q2, c2, nw⟩⟩ = now.set k ⟨f.has, ⟨q2, c2, nw⟩⟩ := by rw [hg2, ← hn2, List.set_set]
      rw [hs2] at hrow2
      have hNow4 : RowF m4 qn cn (now.set k ⟨f.has, ⟨q2, c2, nw⟩⟩) := ⟨fun _ => by rw [List.length_set, ← hl2]; exact hrow2, by rw [List.length_set, ← hl2]; exact hNow2.le, hNow2.nil⟩
      clear hNow2 hT2 hW4 hI4 hrow2 ho hq hs2
      have hk4 : k < (now.set k ⟨f.has, ⟨q2, c2, nw⟩⟩).length := by rw [List.length_set]; exact hkn
      have hg4 : (now.set k ⟨f.has, ⟨q2, c2, nw⟩⟩)[k] = ⟨f.has, ⟨q2, c2, nw⟩⟩ := List.getElem_set_self ..
      have hl4 : (t[i].fs.length : Int) = ((now.set k ⟨f.has, ⟨q2, c2, nw⟩⟩).length : Int) := by rw [List.length_set, hnl]
      refine .loadFW (now.set k ⟨f.has, ⟨q2, c2, nw⟩⟩) k hk4 (fun g => (hNow4.row (fun h => by rw [h] at hk4; simp at hk4)).reads g) (hn := hl4) ?_
      rw [hg4]
      refine .env (by (try simp only [liE, letsOf, letU, snd, List.append_nil]); rfl) (.chk (by ((try simp only [evE, liE, letsOf, letU, snd]); (try simp only [cmE])); omega) (.ite (fun h10 => .ret rfl ?_) (fun h10 => .again rfl ⟨n1 - 1, by omega, k + 1, now.set k ⟨f.has, ⟨q2, c2, nw⟩⟩, ?_, by omega, by rw [List.length_set]; exact hnl, hset _, ?_, ?_, hNow4, hT4, ?_, hre⟩))) <;> ((try simp only [evE, liE, letsOf, letU, snd] at h10); (try simp only [cmE] at h10))
      · have hany : (lvRow t (F.w.w.take nb) row row t[row]).any longF = true := by
          obtain ⟨rfl, _⟩ := h9
          refine List.any_eq_true.2 ⟨_, List.mem_of_getElem? (lvRow_at hk), ?_⟩
          rw [hff, hlF]
          exact decide_eq_true (by show nw.length > 32; omega)
        rw [if_pos hany]; exact TabR.none _ _
      · (simp only [evE, liE, letsOf, letU, snd, Sh.uss, Sh.us, atAddr, map_add0, List.append_nil]); rw [add_i64 k (by omega)]
      · rw [take_set_snoc hkn, List.map_append, hdat, hlk, hlF]; rfl
      · intro x hx
        rw [take_set_snoc hkn] at hx
        rcases List.mem_append.1 hx with hx | hx
        · exact hwk x hx
        · simp at hx; subst hx; exact hw2
      · intro e x hx
        rw [hlk] at hx
        rcases List.mem_append.1 hx with hx | hx
        · exact hshk e x hx
        · simp only [List.mem_cons, List.not_mem_nil, or_false] at hx
          subst hx
          rw [hlF]
          exact decide_eq_false (by show ¬ nw.length > 32; omega)
    · have hkl : t[i].fs.length ≤ k := by omega
      rw [List.take_of_length_le (by omega), List.take_of_length_le (by rw [lvRow_len]; exact hkl)] at hdat
      rw [List.take_of_length_le (by omega)] at hwk
      rw [List.take_of_length_le (by rw [lvRow_len]; exact hkl)] at hshk
      refine .append (n := rows.length) (kx := 1) (qx := some ⟨a1, 0, none⟩) (capx := 1) (news := [slv qn t[i].fs.length cn]) el42 hT.row (fun g => g.cells (j := 1) rfl rfl rfl) rfl (by simp; unfold slv; cases qn <;> rfl) (fun h => by cases h) (by simp [maxLen]; omega) (by omega) (fun q3 k3 m3 hr3 hk3 _ => ?_)
      have hkT : ∀ b cur e, e ≠ 39 → m b = some (.cells cur e (0, 0)) → m3 b = m b := fun b cur e he hb => hk3 b (fun ⟨o, ho⟩ => by
        obtain ⟨cur', hcur'⟩ := hT.row.at_cells ho
        rw [hcur'] at hb; cases hb; exact absurd rfl he) (by rw [hb]; simp)
      refine .env (by (try simp only [liE, letsOf, letU, snd, List.append_nil]); rfl) (.again rfl ⟨n - 1, by omega, i + 1, q3, k3, rows ++ [⟨qn, cn, now⟩], ?_, by omega, ?_, by simp [hrl], ⟨?_, fun r hr => ?_⟩, fun hlt => ?_, hre.keep fun g hg _ => ?_⟩)
      · (simp only [evE, liE, letsOf, letU, snd, Sh.uss, Sh.us, atAddr, map_add0, List.append_nil]); rw [add_i64 i (by omega)]; simp only [List.length_append, List.length_cons, List.length_nil]
      · rw [lvTab_take hi, List.map_append, hrd]
        simp only [List.map_cons, List.map_nil, LD.data, hdat]
      · rw [List.length_append, List.map_append]
        show Row m3 39 1 q3 k3 _ (_ ++ [slv qn now.length cn])
        rw [hnl]; exact hr3
      · rcases List.mem_append.1 hr with hr | hr
        · exact ⟨(hT.rows r hr).1.keepT fun b cur _ hb _ => hkT b cur 41 (by decide) hb, fun f hf => ((hT.rows r hr).2 f hf).keepT fun b cur hb => hkT b cur 31 (by decide) hb⟩
        · simp only [List.mem_cons, List.not_mem_nil, or_false] at hr
          subst hr
          exact ⟨hNow.keepT fun b cur _ hb _ => hkT b cur 41 (by decide) hb, fun f hf => (hwk f hf).keepT fun b cur hb => hkT b cur 31 (by decide) hb⟩
      · rcases Nat.lt_or_ge row i with h | h
        · exact hsh h
        · have : i = row := by omega
          subst this
          exact List.any_eq_false.2 fun x hx => by rw [hshk rfl x hx]; simp
      · obtain ⟨cur, hcur⟩ := hre.at_cells hg
        exact hkT g cur 3 (by decide) hcur
  · have hln : (lvTab t (F.w.w.take nb) row).length = t.length := by simp [lvTab]
    rw [List.take_of_length_le (by omega)] at hrd
    rw [if_neg (by rw [hsh (by omega)]; simp)]
    exact ⟨qo, co, rows, rfl, hrd, hT⟩
end Go.Proofs.YtpbbnmjkbfbelaaDoor
/- Chapter 30: whether two paradigms are the same; words out of strings. -/
namespace Go.Sy
open Go Go.RowKit
theorem RowF.reads {m : Mem} {q : Option Addr} {cap : Nat} {fs : List FD} (h : RowF m q cap fs) {c : Cx} {L : List Nat} {ρ : Env} {blks : List Blk} (g : Good c L m) : Cells (vw c L ρ blks m) q (fcells fs) := by
  by_cases hw : fs = []
  · rw [hw]; exact fun i x hx => by simp [fcells] at hx
  · exact (h.row hw).reads g
theorem TabIn.reads {m : Mem} {q : Option Addr} {cq : Nat} {rows : List LD} (h : TabIn m q cq rows) {c : Cx} {L : List Nat} {ρ : Env} {blks : List Blk} (g : Good c L m) : TableAt (vw c L ρ blks m) q rows :=
  ⟨h.row.reads g, fun r hr => ⟨(h.rows r hr).1.reads g, fun f hf => ((h.rows r hr).2 f hf).reads g⟩⟩
def spellB (b : UInt8) : Snd := if b = 112 then (1, 2) else if b = 97 then (2, 1) else if b = 116 then (4, 0) else if b = 105 then (6, 1) else (0, 4)
def spellW (bs : List UInt8) : List Snd := bs.map spellB
def strV (bs : List UInt8) : Value := .string ⟨bs.toArray⟩
theorem eq_of_all {α : Type} {l l' : List α} (hl : l.length = l'.length) (h : ∀ i (hi : i < l.length) (hi' : i < l'.length), l[i] = l'[i]) : l = l' := List.ext_getElem hl h
end Go.Sy
namespace Go.Proofs.YtpbbnmjkbfbelaaDoor
open Go Go.Sy Go.RowKit
theorem c_sameT (p q : Option Addr) (cp cq : Nat) (t u : List LD) (hl : t.length < 2 ^ 62) (hf : ∀ r ∈ t, r.fs.length < 2 ^ 62 ∧ ∀ f ∈ r.fs, f.w.w.length < 2 ^ 62) : RetP Tryd.prog n_ref30_Same [slv p t.length cp, slv q u.length cq] (fun R => TableAt R p t ∧ TableAt R q u) (.bool (decide (t.map LD.data = u.map LD.data))) := by
  refine Fn.of S_ref30_Same mx [.p p, .i t.length, .i cp, .p q, .i u.length, .i cq] rfl rfl fun c hp => .chk (by ((try simp only [evE, liE, letsOf, letU, snd]); (try simp only [cmE])); omega) (.chk (by ((try simp only [evE, liE, letsOf, letU, snd]); (try simp only [cmE])); omega) (.ite (fun h1 => .ret rfl ?_) (fun h1 => ?_))) <;> ((try simp only [evE, liE, letsOf, letU, snd] at h1); (try simp only [cmE] at h1))
  · have : ¬ t.map LD.data = u.map LD.data := fun h => by have := congrArg List.length h; simp at this; omega
    rw [decide_eq_false this]; rfl
  have htu : t.length = u.length := by omega
  refine .loop (fun n us _ => ∃ (e : Bool) (i : Nat), us = [.b e, .i i] ∧ n + i = t.length ∧ ∀ k (hk : k < t.length) (hk' : k < u.length), k < i → t[k].data = u[k].data) t.length ⟨false, 0, rfl, rfl, fun k _ _ h => by omega⟩ ?_
  rintro n _ m _ ⟨e, i, rfl, hn, hb⟩
  refine .env (by (try simp only [liE, letsOf, letU, snd, List.append_nil]); rfl) (.chk (by ((try simp only [evE, liE, letsOf, letU, snd]); (try simp only [cmE])); omega) (.ite (fun h2 => ?_) (fun h2 => .ret rfl ?_))) <;> ((try simp only [evE, liE, letsOf, letU, snd] at h2); (try simp only [cmE] at h2))
  · have hi : i < t.length := by omega
    have hi' : i < u.length := by omega
    have hfi := hf _ (List.getElem_mem hi)
    have hpi := hp.1.2 _ (List.getElem_mem hi)
    have hqi := hp.2.2 _ (List.getElem_mem hi')
    have hno : t[i].data ≠ u[i].data → ¬ t.map LD.data = u.map LD.data := fun h h2 => h (by
      have h3 : (t.map LD.data)[i]? = (u.map LD.data)[i]? := by rw [h2]
      rw [List.getElem?_map, List.getElem?_map, List.getElem?_eq_getElem hi, List.getElem?_eq_getElem hi'] at h3
      exact Option.some.inj h3)
    refine .loadLD t i hi (fun g => hp.1.1.mono g.R) (.env (by (try simp only [liE, letsOf, letU, snd, List.append_nil]); rfl) (.chk (by ((try simp only [evE, liE, letsOf, letU, snd]); (try simp only [cmE])); omega) (.loadLD u i hi' (fun g => hp.2.1.mono g.R) (.env (by (try simp only [liE, letsOf, letU, snd, List.append_nil]); rfl) (.chk (by ((try simp only [evE, liE, letsOf, letU, snd]); (try simp only [cmE])); omega) (.ite (fun h3 => .ret rfl ?_) (fun h3 => ?_))))))) <;> ((try simp only [evE, liE, letsOf, letU, snd] at h3); (try simp only [cmE] at h3))
    · have : t[i].data ≠ u[i].data := fun h => by have := congrArg List.length h; simp [LD.data] at this; omega
      rw [decide_eq_false (hno this)]; rfl
    have hll : t[i].fs.length = u[i].fs.length := by omega
    refine .loop (fun n us _ => ∃ (e : Bool) (k : Nat), us = [.b e, .i k] ∧ n + k = t[i].fs.length ∧ ∀ j (hj : j < t[i].fs.length) (hj' : j < u[i].fs.length), j < k → t[i].fs[j].data = u[i].fs[j].data) t[i].fs.length ⟨e, 0, rfl, rfl, fun k _ _ h => by omega⟩ ?_
    rintro n1 _ m _ ⟨e, k, rfl, hn1, hb1⟩
    refine .env (by (try simp only [liE, letsOf, letU, snd, List.append_nil]); rfl) (.loadLD t i hi (fun g => hp.1.1.mono g.R) (.env (by (try simp only [liE, letsOf, letU, snd, List.append_nil]); rfl) (.chk (by ((try simp only [evE, liE, letsOf, letU, snd]); (try simp only [cmE])); omega) (.ite (fun h4 => ?_) (fun h4 => .again rfl ⟨n - 1, by omega, e, i + 1, ?_, by omega, fun j hj hj' hji => ?_⟩))))) <;> ((try simp only [evE, liE, letsOf, letU, snd] at h4); (try simp only [cmE] at h4))
    · have hk : k < t[i].fs.length := by omega
      have hk' : k < u[i].fs.length := by omega
      have hno2 : t[i].fs[k].data ≠ u[i].fs[k].data → t[i].data ≠ u[i].data := fun h h2 => h (by
        have h3 : t[i].data[k]? = u[i].data[k]? := by rw [h2]
        unfold LD.data at h3
        rw [List.getElem?_map, List.getElem?_map, List.getElem?_eq_getElem hk, List.getElem?_eq_getElem hk'] at h3
        exact Option.some.inj h3)
      refine .loadLD t i hi (fun g => hp.1.1.mono g.R) (.env (by (try simp only [liE, letsOf, letU, snd, List.append_nil]); rfl) (.loadHas t[i].fs k hk (fun g => hpi.1.mono g.R) (.env (by (try simp only [liE, letsOf, letU, snd, List.append_nil]); rfl) (.loadLD u i hi' (fun g => hp.2.1.mono g.R) (.env (by (try simp only [liE, letsOf, letU, snd, List.append_nil]); rfl) (.loadHas u[i].fs k hk' (fun g => hqi.1.mono g.R) (.env (by (try simp only [liE, letsOf, letU, snd, List.append_nil]); rfl) (.ite (fun h5 => .ret rfl ?_) (fun h5 => ?_)))))))))
      · replace h5 : (!(t[i].fs[k].has == u[i].fs[k].has)) = true := h5
        have : t[i].fs[k].data ≠ u[i].fs[k].data := fun h => by
          have : t[i].fs[k].has = u[i].fs[k].has := congrArg Prod.fst h
          rw [this] at h5; simp at h5
        rw [decide_eq_false (hno (hno2 this))]; rfl
      replace h5 : (!(t[i].fs[k].has == u[i].fs[k].has)) = false := h5
      have h5' : t[i].fs[k].has = u[i].fs[k].has := by simpa using h5
      refine .loadLD t i hi (fun g => hp.1.1.mono g.R) (.env (by (try simp only [liE, letsOf, letU, snd, List.append_nil]); rfl) (.loadFW t[i].fs k hk (fun g => hpi.1.mono g.R) (.env (by (try simp only [liE, letsOf, letU, snd, List.append_nil]); rfl) (.loadLD u i hi' (fun g => hp.2.1.mono g.R) (.env (by (try simp only [liE, letsOf, letU, snd, List.append_nil]); rfl) (.loadFW u[i].fs k hk' (fun g => hqi.1.mono g.R) (.env (by (try simp only [liE, letsOf, letU, snd, List.append_nil]); rfl) (.callV (c_refEqual t[i].fs[k].w.p u[i].fs[k].w.p t[i].fs[k].w.cap u[i].fs[k].w.cap t[i].fs[k].w.w u[i].fs[k].w.w (hfi.2 _ (List.getElem_mem hk))) (fun g => ⟨(hpi.2 _ (List.getElem_mem hk)).mono g.R, (hqi.2 _ (List.getElem_mem hk')).mono g.R⟩) (.env (by (try simp only [liE, letsOf, letU, snd, List.append_nil]); rfl) (.ite (fun h6 => .ret rfl ?_) (fun h6 => .again rfl ⟨n1 - 1, by omega, e, k + 1, ?_, by omega, fun j hj hj' hjk => ?_⟩)))))))))))
      · replace h6 : (!decide (t[i].fs[k].w.w = u[i].fs[k].w.w)) = true := h6
        have : t[i].fs[k].data ≠ u[i].fs[k].data := fun h => by
          have : t[i].fs[k].w.w = u[i].fs[k].w.w := congrArg Prod.snd h
          rw [this] at h6; simp at h6
        rw [decide_eq_false (hno (hno2 this))]; rfl
      · (simp only [evE, liE, letsOf, letU, snd, Sh.uss, Sh.us, atAddr, map_add0, List.append_nil]); rw [add_i64 k (by omega)]
      · replace h6 : (!decide (t[i].fs[k].w.w = u[i].fs[k].w.w)) = false := h6
        rcases Nat.lt_or_ge j k with h | h
        · exact hb1 j hj hj' h
        · have : j = k := by omega
          subst this
          exact Prod.ext h5' (show t[i].fs[j].w.w = u[i].fs[j].w.w by simpa using h6)
    · (simp only [evE, liE, letsOf, letU, snd, Sh.uss, Sh.us, atAddr, map_add0, List.append_nil]); rw [add_i64 i (by omega)]
    · rcases Nat.lt_or_ge j i with h | h
      · exact hb j hj hj' h
      · have : j = i := by omega
        subst this
        unfold LD.data
        exact eq_of_all (by simpa using hll) fun k hk hk' => by
          rw [List.getElem_map, List.getElem_map]
          exact hb1 k (by simpa using hk) (by simpa using hk') (by simp at hk; omega)
  · have : t.map LD.data = u.map LD.data := eq_of_all (by simpa using htu) fun k hk hk' => by
      rw [List.getElem_map, List.getElem_map]
      exact hb k (by simpa using hk) (by simpa using hk') (by simp at hk; omega)
    rw [decide_eq_true this]; rfl
end Go.Proofs.YtpbbnmjkbfbelaaDoor
/- Chapter 30: words, models and rows out of strings. -/
namespace Go.Sy
open Go Go.RowKit
section
variable {P : Program} {c : Cx} {L : List Nat} {ρ : Env} {blks : List Blk} {m : Mem} {R : Value → HW → Prop} {Dn : Nat → List U → HW → Prop} {A : List (List U → HW → Prop)}
theorem DenM.lenS {t ty : TypeId} {aa : Array Operand} {sv : SV} {k : Tree} (bs : List UInt8) (h : P.underlying t = some .string) (hl : bs.length < 2 ^ 62) (hk : DenM P R Dn k L (ρ ++ [.i bs.length]) c m A) (hv : sv.den L ρ = strV bs := by rfl) : DenM P R Dn (.extp ⟨.call ⟨.builtin .len, aa, #[t]⟩, ty, [sv]⟩ (.int .i64) blks k) L ρ c m A := .extp [.i bs.length] ⟨_, rfl⟩ (fun g w hw => by
  have e1 := getElem_env ρ [.i bs.length] 0
  rw [Nat.add_zero] at e1
  simp only [SV.dens, Sh.fresh, SV.den, IT.eval, Env.int]
  rw [hv, e1]
  show (builtin .len #[t] ty (aa.map fun | .const _ => true | _ => false) #[strV bs]).run P w = _
  have h2 := run_len_string (P := P) w t ty ⟨bs.toArray⟩ h
  have h3 : goInt (⟨bs.toArray⟩ : ByteArray).size = .int .i64 bs.length := rfl
  rw [h3] at h2
  simp only [builtin, strV]
  rw [Sem.run_bind, h2]; rfl) hk
theorem DenM.indexS {t ty : TypeId} {x y : Operand} {sv iv : SV} {k : Tree} (bs : List UInt8) (j : Nat) (hj : j < bs.length) (h : P.underlying t = some .string) (hk : DenM P R Dn k L (ρ ++ [.i (bs[j].toNat : Nat)]) c m A) (hv : sv.den L ρ = strV bs := by rfl) (hi : iv.den L ρ = .int .i64 (j : Nat) := by rfl) : DenM P R Dn (.extp ⟨.index t x y, ty, [sv, iv]⟩ (.int .u8) blks k) L ρ c m A := .extp [.i (bs[j].toNat : Nat)] ⟨_, rfl⟩ (fun g w hw => by
  have e1 := getElem_env ρ [.i (bs[j].toNat : Nat)] 0
  rw [Nat.add_zero] at e1
  simp only [SV.dens, Sh.fresh, SV.den, IT.eval, Env.int]
  rw [hv, hi, e1]
  show (do pure (Next.value (← Instr.index t (strV bs) (.int .i64 (j : Nat)))) : Sem Next).run P w = _
  have h2 := run_index_string (P := P) w t ⟨bs.toArray⟩ .i64 (j : Nat) h
  rw [dif_pos ⟨by omega, by show (j : Int) < (bs.length : Nat); omega⟩] at h2
  rw [Sem.run_bind]
  unfold strV
  rw [h2]; rfl) hk
end
end Go.Sy
namespace Go.Proofs.YtpbbnmjkbfbelaaDoor
open Go Go.Sy Go.RowKit
theorem c_spell (bs : List UInt8) (hl : bs.length < 2 ^ 30) : FnM Tryd.prog n_law30_spell [strV bs] (fun _ => True) fun v mq _ => ∃ q cq, v = slv q (spellW bs).length cq ∧ RowW mq 31 q cq (spellW bs) := by
  refine FnM.of S_law30_spell mx [.v (strV bs)] rfl rfl fun c _ => ?_
  refine .loop (fun n us mm => ∃ (j : Nat) (q : Option Addr) (cq : Nat), us = [.p q, .i (spellW (bs.take j)).length, .i cq, .i j] ∧ n + j = bs.length ∧ Row mm 31 2 q cq (spellW (bs.take j)).length (wcells (spellW (bs.take j)))) bs.length ⟨0, none, 0, rfl, rfl, Row.nil _ _ _⟩ ?_
  rintro n _ m _ ⟨j, q, cq, rfl, hn, hr⟩
  have hlj : (spellW (bs.take j)).length = j := by simp [spellW]; omega
  refine .env (by (try simp only [liE, letsOf, letU, snd, List.append_nil]); rfl) (.lenS bs Tryd.underlying9 (by omega) (.env (by (try simp only [liE, letsOf, letU, snd, List.append_nil]); rfl) (.ite (fun h1 => ?_) (fun h1 => .ret rfl ?_)))) <;> ((try simp only [evE, liE, letsOf, letU, snd] at h1); (try simp only [cmE] at h1))
  · have hj : j < bs.length := by omega
    have hs : spellW (bs.take (j + 1)) = spellW (bs.take j) ++ [spellB bs[j]] := by unfold spellW; rw [List.take_succ_eq_append_getElem hj, List.map_append]; rfl
    have app : ∀ {aa : Array Operand} {b0 : Nat} {L : List Nat} {ρ : Env} {blks : List Blk} {k : Tree} {sv xv : SV} {A : List (List U → HW → Prop)} {m : Mem} (s : Snd), s = spellB bs[j] → Row m 31 2 q cq (spellW (bs.take j)).length (wcells (spellW (bs.take j))) → (Sy.Good c L m → Cells (vw c L ρ blks m) (some ⟨b0, 0, none⟩) [.int .u32 s.1, .int .u32 s.2]) → sv.den L ρ = slv q (spellW (bs.take j)).length cq → xv.den L ρ = slv (some ⟨b0, 0, none⟩) 1 1 → scBlks ρ.length blks = true →
        (∀ q' cq' m', Row m' 31 2 q' cq' (spellW (bs.take (j + 1))).length (wcells (spellW (bs.take (j + 1)))) → DenM Tryd.prog (outM c fun v m => ∃ q cq, v = slv q (spellW bs).length cq ∧ RowW m 31 q cq (spellW bs)) (fun _ _ _ => False) k L (ρ ++ [.p q', .i (spellW (bs.take (j + 1))).length, .i cq']) c m' A) →
        DenM Tryd.prog (outM c fun v m => ∃ q cq, v = slv q (spellW bs).length cq ∧ RowW m 31 q cq (spellW bs)) (fun _ _ _ => False) (.ext false ⟨.call ⟨.builtin .append, aa, #[22, 22]⟩, 22, [sv, xv]⟩ .sl blks k) L ρ c m A := fun {aa b0 L ρ blks k sv xv A m} s hsp hr hc hsv hxv hsc hk => by
      subst hsp
      refine .append (n := (spellW (bs.take j)).length) (kx := 1) (qx := some ⟨b0, 0, none⟩) (capx := 1) (news := wcells [spellB bs[j]]) el22 hr hc rfl (wcells_one _) (fun h => by cases h) (by simp [maxLen]; omega) (by omega) (fun q' k' m' hr' _ _ => ?_) hsv hxv hsc
      rw [← wcells_append, ← hs] at hr'
      have e : (spellW (bs.take j)).length + 1 = (spellW (bs.take (j + 1))).length := by rw [hs]; simp
      rw [e] at hr' ⊢
      exact hk q' k' m' hr'
    have hI : ∀ {ρ' : Env}, ρ' = ρ' := rfl
    refine .indexS bs j hj Tryd.underlying9 (.env (by (try simp only [liE, letsOf, letU, snd, List.append_nil]); rfl) ?_)
    have hbt : ∀ x : Nat, x < 256 → ((bs[j].toNat : Nat) = x ↔ bs[j] = UInt8.ofNat x) := fun x hx => ⟨fun h => by rw [← h]; simp, fun h => by rw [h]; simp; omega⟩
    refine .join (fun us mm => ∃ (q : Option Addr) (cq : Nat), us = [.p q, .i (spellW (bs.take (j + 1))).length, .i cq] ∧ Row mm 31 2 q cq (spellW (bs.take (j + 1))).length (wcells (spellW (bs.take (j + 1))))) (.ite (fun h2 => .alloc fun b0 => ?_) (fun h2 => ?_)) ?_
    · ((try simp only [evE, liE, letsOf, letU, snd] at h2); (try simp only [cmE] at h2))
      refine app (1, 2) ?_ hr (fun g => g.cells (j := 0) rfl rfl rfl) rfl rfl rfl fun q' cq' m' hr' => .env (by (try simp only [liE, letsOf, letU, snd, List.append_nil]); rfl) (.again rfl ⟨q', cq', (by (simp only [evE, liE, letsOf, letU, snd, Sh.uss, Sh.us, atAddr, map_add0, List.append_nil]) <;> rfl), hr'⟩)
      rw [spellB, if_pos (show bs[j] = 112 from (hbt 112 (by omega)).1 (by omega))]
    · ((try simp only [evE, liE, letsOf, letU, snd] at h2); (try simp only [cmE] at h2))
      have n1 : ¬ bs[j] = 112 := fun h => h2 (by have := (hbt 112 (by omega)).2 h; omega)
      refine .join (fun us mm => ∃ (q : Option Addr) (cq : Nat), us = [.p q, .i (spellW (bs.take (j + 1))).length, .i cq] ∧ Row mm 31 2 q cq (spellW (bs.take (j + 1))).length (wcells (spellW (bs.take (j + 1))))) (.ite (fun h3 => .alloc fun b0 => ?_) (fun h3 => ?_)) ?_
      · ((try simp only [evE, liE, letsOf, letU, snd] at h3); (try simp only [cmE] at h3))
        refine app (2, 1) ?_ hr (fun g => g.cells (j := 0) rfl rfl rfl) rfl rfl rfl fun q' cq' m' hr' => .env (by (try simp only [liE, letsOf, letU, snd, List.append_nil]); rfl) (.again rfl ⟨q', cq', (by (simp only [evE, liE, letsOf, letU, snd, Sh.uss, Sh.us, atAddr, map_add0, List.append_nil]) <;> rfl), hr'⟩)
        rw [spellB, if_neg n1, if_pos (show bs[j] = 97 from (hbt 97 (by omega)).1 (by omega))]
      · ((try simp only [evE, liE, letsOf, letU, snd] at h3); (try simp only [cmE] at h3))
        have n2 : ¬ bs[j] = 97 := fun h => h3 (by have := (hbt 97 (by omega)).2 h; omega)
        refine .join (fun us mm => ∃ (q : Option Addr) (cq : Nat), us = [.p q, .i (spellW (bs.take (j + 1))).length, .i cq] ∧ Row mm 31 2 q cq (spellW (bs.take (j + 1))).length (wcells (spellW (bs.take (j + 1))))) (.ite (fun h4 => .alloc fun b0 => ?_) (fun h4 => ?_)) ?_
        · ((try simp only [evE, liE, letsOf, letU, snd] at h4); (try simp only [cmE] at h4))
          refine app (4, 0) ?_ hr (fun g => g.cells (j := 0) rfl rfl rfl) rfl rfl rfl fun q' cq' m' hr' => .env (by (try simp only [liE, letsOf, letU, snd, List.append_nil]); rfl) (.again rfl ⟨q', cq', (by (simp only [evE, liE, letsOf, letU, snd, Sh.uss, Sh.us, atAddr, map_add0, List.append_nil]) <;> rfl), hr'⟩)
          rw [spellB, if_neg n1, if_neg n2, if_pos (show bs[j] = 116 from (hbt 116 (by omega)).1 (by omega))]
        · ((try simp only [evE, liE, letsOf, letU, snd] at h4); (try simp only [cmE] at h4))
          have n3 : ¬ bs[j] = 116 := fun h => h4 (by have := (hbt 116 (by omega)).2 h; omega)
          refine .join (fun us mm => ∃ (q : Option Addr) (cq : Nat), us = [.p q, .i (spellW (bs.take (j + 1))).length, .i cq] ∧ Row mm 31 2 q cq (spellW (bs.take (j + 1))).length (wcells (spellW (bs.take (j + 1))))) (.ite (fun h5 => .alloc fun b0 => ?_) (fun h5 => .alloc fun b0 => ?_)) ?_
          · ((try simp only [evE, liE, letsOf, letU, snd] at h5); (try simp only [cmE] at h5))
            refine app (6, 1) ?_ hr (fun g => g.cells (j := 0) rfl rfl rfl) rfl rfl rfl fun q' cq' m' hr' => .env (by (try simp only [liE, letsOf, letU, snd, List.append_nil]); rfl) (.again rfl ⟨q', cq', (by (simp only [evE, liE, letsOf, letU, snd, Sh.uss, Sh.us, atAddr, map_add0, List.append_nil]) <;> rfl), hr'⟩)
            rw [spellB, if_neg n1, if_neg n2, if_neg n3, if_pos (show bs[j] = 105 from (hbt 105 (by omega)).1 (by omega))]
          · ((try simp only [evE, liE, letsOf, letU, snd] at h5); (try simp only [cmE] at h5))
            have n4 : ¬ bs[j] = 105 := fun h => h5 (by have := (hbt 105 (by omega)).2 h; omega)
            refine app (0, 4) ?_ hr (fun g => g.cells (j := 0) rfl rfl rfl) rfl rfl rfl fun q' cq' m' hr' => .env (by (try simp only [liE, letsOf, letU, snd, List.append_nil]); rfl) (.again rfl ⟨q', cq', (by (simp only [evE, liE, letsOf, letU, snd, Sh.uss, Sh.us, atAddr, map_add0, List.append_nil]) <;> rfl), hr'⟩)
            rw [spellB, if_neg n1, if_neg n2, if_neg n3, if_neg n4]
          rintro _ m2 _ ⟨q2, cq2, rfl, hr2⟩
          exact .env (by (try simp only [liE, letsOf, letU, snd, List.append_nil]); rfl) (.again rfl ⟨q2, cq2, (by (simp only [evE, liE, letsOf, letU, snd, Sh.uss, Sh.us, atAddr, map_add0, List.append_nil]) <;> rfl), hr2⟩)
        rintro _ m2 _ ⟨q2, cq2, rfl, hr2⟩
        exact .env (by (try simp only [liE, letsOf, letU, snd, List.append_nil]); rfl) (.again rfl ⟨q2, cq2, (by (simp only [evE, liE, letsOf, letU, snd, Sh.uss, Sh.us, atAddr, map_add0, List.append_nil]) <;> rfl), hr2⟩)
      rintro _ m2 _ ⟨q2, cq2, rfl, hr2⟩
      exact .env (by (try simp only [liE, letsOf, letU, snd, List.append_nil]); rfl) (.again rfl ⟨q2, cq2, (by (simp only [evE, liE, letsOf, letU, snd, Sh.uss, Sh.us, atAddr, map_add0, List.append_nil]) <;> rfl), hr2⟩)
    rintro _ m2 _ ⟨q2, cq2, rfl, hr2⟩
    refine .env (by (try simp only [liE, letsOf, letU, snd, List.append_nil]); rfl) (.again rfl ⟨n - 1, by omega, j + 1, q2, cq2, ?_, by omega, hr2⟩)
    (simp only [evE, liE, letsOf, letU, snd, Sh.uss, Sh.us, atAddr, map_add0, List.append_nil]); rw [add_i64 j (by omega)]
  · rw [List.take_of_length_le (by omega)] at hr ⊢
    exact ⟨q, cq, rfl, .of hr⟩
end Go.Proofs.YtpbbnmjkbfbelaaDoor
/- Chapter 30: models and rows out of strings. -/
namespace Go.Sy
open Go Go.RowKit
theorem run_eqstr {P : Program} {t ty : TypeId} {x y : Operand} {z : TypeId} {a b : ByteArray} {w : World} (h : P.underlying t = some .string) : (XOp.sem (.binOp .eql t x y z) ty [.string a, .string b]).run P w = .ok (.value (.bool (a.toList == b.toList))) w := by
  show (do pure (Next.value (← (do eqGuard .eql t x y (.string a) (.string b); binOp .eql t (.string a) (.string b)))) : Sem Next).run P w = _
  have h1 : (eqGuard .eql t x y (.string a) (.string b)).run P w = .ok () w := rfl
  have h2 : (binOp .eql t (.string a) (.string b)).run P w = .ok (.bool (a.toList == b.toList)) w := by
    rw [binOp_string_eql, Sem.run_pure]
  simp only [Sem.run_bind, h1, Result.andThen_ok, h2]
  rfl
theorem bytes_beq (a b : List UInt8) : ((⟨a.toArray⟩ : ByteArray).toList == (⟨b.toArray⟩ : ByteArray).toList) = decide (a = b) := by
  rw [ByteArray.toList_eq, ByteArray.toList_eq]
  show (a == b) = decide (a = b)
  rw [Bool.eq_iff_iff]; simp
section
variable {P : Program} {c : Cx} {L : List Nat} {ρ : Env} {blks : List Blk} {m : Mem} {R : Value → HW → Prop} {Dn : Nat → List U → HW → Prop} {A : List (List U → HW → Prop)}
theorem DenM.eqS {t ty : TypeId} {x y : Operand} {z : TypeId} {sv sv2 : SV} {k : Tree} (a b : List UInt8) (h : P.underlying t = some .string) (hk : DenM P R Dn k L (ρ ++ [.b (decide (a = b))]) c m A) (hv : sv.den L ρ = strV a := by rfl) (hv2 : sv2.den L ρ = strV b := by rfl) : DenM P R Dn (.extp ⟨.binOp .eql t x y z, ty, [sv, sv2]⟩ .bool blks k) L ρ c m A := .extp [.b (decide (a = b))] ⟨_, rfl⟩ (fun g w hw => by
  have e1 := getElem_env ρ [.b (decide (a = b))] 0
  rw [Nat.add_zero] at e1
  simp only [SV.dens, Sh.fresh, SV.den, BT.eval, Env.bool]
  rw [hv, hv2, e1]
  rw [show (XOp.sem (.binOp .eql t x y z) ty [strV a, strV b]).run P w = _ from run_eqstr h, bytes_beq]; rfl) hk
theorem DenM.loadStr {i : Nat} {I len : IT} {k : Tree} (l : List (List UInt8)) (j : Nat) (hj : j < l.length) (hc : Good c L m → Cells (vw c L ρ blks m) (ρ.ptr i) (l.map strV)) (hk : DenM P R Dn k L (ρ ++ [.v (strV l[j])]) c m A) (hI : I.eval ρ = (j : Int) := by rfl) (hn : len.eval ρ = (l.length : Int) := by rfl) :
    DenM P R Dn (.chk (.pick (.cmp .geq I (.lit 0)) (.pick (.cmp .lss I len) (.some i) (.lit false)) (.lit false)) (.load i (.off I 1 (.lit 0)) [.val] blks k)) L ρ c m A := by
  refine .elem [.v (strV l[j])] (l.map strV) j l.length hI hn hj rfl hc (by simpa using hj) (fun q v hv => ?_) hk
  have e1 := getElem_env ρ [.v (strV l[j])] 0
  rw [Nat.add_zero] at e1
  simp only [Sh.freshs, Sh.fresh, SV.dens, SV.den, Env.val, e1] at hv
  match q, hv with
  | 0, hv =>
    simp at hv
    rw [← hv, Nat.mul_one, Nat.add_zero, List.getElem?_map, List.getElem?_eq_getElem hj]; rfl
  | q + 1, hv => simp at hv
theorem agg2_fresh (ρ : Env) (L : List Nat) (p q : Option Addr) (n cp k cq : Nat) : ((Sh.agg [.sl, .sl]).fresh ρ.length).1.den L (ρ ++ [.p p, .i n, .i cp, .p q, .i k, .i cq]) = .agg #[slv p n cp, slv q k cq] := by
  have e1 := sl_at ρ L p n cp [.p q, .i k, .i cq]
  have e2 := sl_at (ρ ++ [.p p, .i n, .i cp]) L q k cq []
  rw [List.append_assoc] at e2
  simp only [List.cons_append, List.nil_append, List.length_append, List.length_cons, List.length_nil] at e2
  simp only [Sh.fresh, Sh.freshs, SV.den, SV.dens] at e1 e2 ⊢
  rw [e1, e2]
end
def rowB (bs : List UInt8) : Bool × List Snd := if bs = [45] then (false, []) else (true, spellW bs)
theorem fcells_append (a b : List FD) : fcells (a ++ b) = fcells a ++ fcells b := by simp [fcells]
end Go.Sy
namespace Go.Proofs.YtpbbnmjkbfbelaaDoor
open Go Go.Sy Go.RowKit
theorem c_pair (bs cs : List UInt8) (hb : bs.length < 2 ^ 30) (hc : cs.length < 2 ^ 30) : FnM Tryd.prog n_law30_pair [strV bs, strV cs] (fun _ => True) fun v mq _ => ∃ p cp q cq, v = .agg #[slv p (spellW bs).length cp, slv q (spellW cs).length cq] ∧ RowW mq 31 p cp (spellW bs) ∧ RowW mq 31 q cq (spellW cs) := by
  refine FnM.of S_law30_pair mx [.v (strV bs), .v (strV cs)] rfl rfl fun c _ => .alloc fun b0 => .callM (c_spell bs hb) rfl rfl (fun _ => trivial) ?_
  rintro v mq hf ⟨p, cp, rfl, hr⟩
  refine ⟨[.p p, .i (spellW bs).length, .i cp], ⟨_, _, _, rfl⟩, (slv_fresh _ _ _ _ _).symm, .env (by (try simp only [liE, letsOf, letU, snd, List.append_nil]); rfl) (.callM (c_spell cs hc) rfl rfl (fun _ => trivial) ?_)⟩
  rintro v mq2 hf2 ⟨q, cq, rfl, hr2⟩
  exact ⟨[.p q, .i (spellW cs).length, .i cq], ⟨_, _, _, rfl⟩, (slv_fresh _ _ _ _ _).symm, .env (by (try simp only [liE, letsOf, letU, snd, List.append_nil]); rfl) (.ret rfl ⟨p, cp, q, cq, rfl, (hr.joinR fun b hb => rfl).joinL, hr2.joinR fun b hb => (hf2 b hb).1⟩)⟩
theorem c_row (p : Option Addr) (cp : Nat) (l : List (List UInt8)) (hl : l.length < 2 ^ 30) (hs : ∀ b ∈ l, b.length < 2 ^ 30) : FnM Tryd.prog n_law30_row [slv p l.length cp] (fun R => Cells R p (l.map strV)) fun v mq _ => ∃ q cq fs, v = slv q fs.length cq ∧ fs.map FD.data = l.map rowB ∧ RowF mq q cq fs ∧ ∀ f ∈ fs, RowW mq 31 f.w.p f.w.cap f.w.w := by
  refine FnM.of S_law30_row mx [.p p, .i l.length, .i cp] rfl rfl fun c hp => ?_
  refine .loop (fun n us mm => ∃ (j : Nat) (q : Option Addr) (cq : Nat) (fs : List FD), us = [.p q, .i fs.length, .i cq, .i j] ∧ n + j = l.length ∧ fs.length = j ∧ fs.map FD.data = (l.take j).map rowB ∧ Row mm 41 2 q cq fs.length (fcells fs) ∧ ∀ f ∈ fs, RowW mm 31 f.w.p f.w.cap f.w.w) l.length ⟨0, none, 0, [], rfl, rfl, rfl, rfl, Row.nil _ _ _, by simp⟩ ?_
  rintro n _ m _ ⟨j, q, cq, fs, rfl, hn, hfl, hd, hr, hw⟩
  refine .env (by (try simp only [liE, letsOf, letU, snd, List.append_nil]); rfl) (.chk (by ((try simp only [evE, liE, letsOf, letU, snd]); (try simp only [cmE])); omega) (.ite (fun h1 => ?_) (fun h1 => .ret rfl ?_))) <;> ((try simp only [evE, liE, letsOf, letU, snd] at h1); (try simp only [cmE] at h1))
  · have hj : j < l.length := by omega
    have hxj : (l.map strV)[j]? = some (strV l[j]) := by rw [List.getElem?_map, List.getElem?_eq_getElem hj]; rfl
    have ht : (l.take (j + 1)).map rowB = (l.take j).map rowB ++ [rowB l[j]] := by rw [List.take_succ_eq_append_getElem hj, List.map_append]; rfl
    refine .loadStr l j hj (fun g => hp.mono g.R) (.env (by (try simp only [liE, letsOf, letU, snd, List.append_nil]); rfl) (.eqS l[j] [45] Tryd.underlying9 (.env (by (try simp only [liE, letsOf, letU, snd, List.append_nil]); rfl) ?_)))
    refine .join (fun us mm => ∃ (q : Option Addr) (cq : Nat) (fs : List FD), us = [.p q, .i fs.length, .i cq] ∧ fs.length = j + 1 ∧ fs.map FD.data = (l.take (j + 1)).map rowB ∧ Row mm 41 2 q cq fs.length (fcells fs) ∧ ∀ f ∈ fs, RowW mm 31 f.w.p f.w.cap f.w.w) (.ite (fun h2 => .alloc fun b0 => ?_) (fun h2 => ?_)) ?_
    · replace h2 := of_decide_eq_true h2
      refine .append (n := fs.length) (kx := 1) (qx := some ⟨b0, 0, none⟩) (capx := 1) (news := fcells [⟨false, ⟨none, 0, []⟩⟩]) el39 hr (fun g => g.cells (j := 0) rfl rfl rfl) rfl (fcells_one _) (fun h => by cases h) (by simp [maxLen]; omega) (by omega) (fun q3 k3 m3 hr3 hk3 _ => ?_)
      refine .env (by (try simp only [liE, letsOf, letU, snd, List.append_nil]); rfl) (.again rfl ⟨q3, k3, fs ++ [⟨false, ⟨none, 0, []⟩⟩], ?_, by simp; omega, ?_, ?_, fun f hf => ?_⟩)
      · (simp only [evE, liE, letsOf, letU, snd, Sh.uss, Sh.us, atAddr, map_add0, List.append_nil]); simp only [List.length_append, List.length_cons, List.length_nil]
      · rw [ht, List.map_append, hd, h2]; rfl
      · rw [List.length_append, fcells_append]; exact hr3
      · rcases List.mem_append.1 hf with hf | hf
        · refine (hw f hf).keepT fun b cur hb => hk3 b (fun ⟨o, ho⟩ => ?_) (by rw [hb]; simp)
          obtain ⟨cur', hcur'⟩ := hr.at_cells ho
          rw [hcur'] at hb; cases hb
        · simp only [List.mem_cons, List.not_mem_nil, or_false] at hf
          subst hf
          exact .of (Row.nil _ _ _)
    · replace h2 := of_decide_eq_false h2
      refine .loadStr l j hj (fun g => hp.mono g.R) (.env (by (try simp only [liE, letsOf, letU, snd, List.append_nil]); rfl) (.callM (c_spell l[j] (hs _ (List.getElem_mem hj))) rfl rfl (fun _ => trivial) ?_))
      rintro v mq hfr ⟨qs, ks, rfl, hrs⟩
      refine ⟨[.p qs, .i (spellW l[j]).length, .i ks], ⟨_, _, _, rfl⟩, (slv_fresh _ _ _ _ _).symm, .env (by (try simp only [liE, letsOf, letU, snd, List.append_nil]); rfl) ?_⟩
      replace hrs := hrs.joinR (m := m) fun b hb => (hfr b hb).1
      replace hr := hr.joinL (mq := mq)
      replace hw : ∀ f ∈ fs, RowW (m.join mq) 31 f.w.p f.w.cap f.w.w := fun f hf => (hw f hf).joinL
      generalize m.join mq = m1 at *
      refine .alloc fun b0 => .append (n := fs.length) (kx := 1) (qx := some ⟨b0, 0, none⟩) (capx := 1) (news := fcells [⟨true, ⟨qs, ks, spellW l[j]⟩⟩]) el39 hr (fun g => g.cells (j := 0) rfl rfl rfl) rfl (fcells_one _) (fun h => by cases h) (by simp [maxLen]; omega) (by omega) (fun q3 k3 m3 hr3 hk3 _ => ?_)
      have hk31 : ∀ b cur, m1 b = some (.cells cur 31 (0, 0)) → m3 b = m1 b := fun b cur hb => hk3 b (fun ⟨o, ho⟩ => by
        obtain ⟨cur', hcur'⟩ := hr.at_cells ho
        rw [hcur'] at hb; cases hb) (by rw [hb]; simp)
      refine .env (by (try simp only [liE, letsOf, letU, snd, List.append_nil]); rfl) (.again rfl ⟨q3, k3, fs ++ [⟨true, ⟨qs, ks, spellW l[j]⟩⟩], ?_, by simp; omega, ?_, ?_, fun f hf => ?_⟩)
      · (simp only [evE, liE, letsOf, letU, snd, Sh.uss, Sh.us, atAddr, map_add0, List.append_nil]); simp only [List.length_append, List.length_cons, List.length_nil]
      · rw [ht, List.map_append, hd]
        simp only [rowB, if_neg h2]; rfl
      · rw [List.length_append, fcells_append]; exact hr3
      · rcases List.mem_append.1 hf with hf | hf
        · exact (hw f hf).keepT hk31
        · simp only [List.mem_cons, List.not_mem_nil, or_false] at hf
          subst hf
          exact hrs.keepT hk31
    rintro _ m2 _ ⟨q2, cq2, fs2, rfl, hl2, hd2, hr2, hw2⟩
    refine .env (by (try simp only [liE, letsOf, letU, snd, List.append_nil]); rfl) (.again rfl ⟨n - 1, by omega, j + 1, q2, cq2, fs2, ?_, by omega, hl2, hd2, hr2, hw2⟩)
    (simp only [evE, liE, letsOf, letU, snd, Sh.uss, Sh.us, atAddr, map_add0, List.append_nil]); rw [add_i64 j (by omega)]
  · rw [List.take_of_length_le (by omega)] at hd
    exact ⟨q, cq, fs, rfl, hd, ⟨fun _ => hr, hr.cap_le, row_cap0 hr⟩, hw⟩
end Go.Proofs.YtpbbnmjkbfbelaaDoor
namespace Go.Sy
open Go Go.RowKit
theorem ext_fresh (ρ : Env) (L : List Nat) (q : Option Addr) (n cap : Nat) (x e : Int) : ((Sh.tup [.sl, .int .i64, .int .i64]).fresh ρ.length).1.den L (ρ ++ [.p q, .i n, .i cap, .i x, .i e]) = .tuple #[slv q n cap, .int .i64 x, .int .i64 e] := by
  have e1 := sl_at ρ L q n cap [.i x, .i e]
  have e2 := getElem_env ρ [.p q, .i n, .i cap, .i x, .i e] 3
  have e3 := getElem_env ρ [.p q, .i n, .i cap, .i x, .i e] 4
  simp only [Sh.fresh, Sh.freshs, SV.den, SV.dens, IT.eval, Env.int] at e1 e2 e3 ⊢
  rw [e1, show ρ.length + 1 + 2 = ρ.length + 3 by omega, e2, show ρ.length + 3 + 1 = ρ.length + 4 by omega, e3]
  rfl
theorem tab_fresh (ρ : Env) (L : List Nat) (q : Option Addr) (n cap : Nat) (e : Int) : ((Sh.tup [.sl, .int .i64]).fresh ρ.length).1.den L (ρ ++ [.p q, .i n, .i cap, .i e]) = .tuple #[slv q n cap, .int .i64 e] := by
  have e1 := sl_at ρ L q n cap [.i e]
  have e2 := getElem_env ρ [.p q, .i n, .i cap, .i e] 3
  simp only [Sh.fresh, Sh.freshs, SV.den, SV.dens, IT.eval, Env.int] at e1 e2 ⊢
  rw [e1, show ρ.length + 1 + 2 = ρ.length + 3 by omega, e2]
  rfl
theorem rows2 {fs : List FD} {b1 b2 : Bool} {w1 w2 : List Snd} (h : fs.map FD.data = [(b1, w1), (b2, w2)]) : ∃ p1 c1 p2 c2, fs = [⟨b1, ⟨p1, c1, w1⟩⟩, ⟨b2, ⟨p2, c2, w2⟩⟩] := by
  match fs, h with
  | [⟨x1, ⟨p1, c1, y1⟩⟩, ⟨x2, ⟨p2, c2, y2⟩⟩], h =>
    simp only [List.map_cons, List.map_nil, FD.data, List.cons.injEq, Prod.mk.injEq, and_true] at h
    obtain ⟨⟨rfl, rfl⟩, rfl, rfl⟩ := h
    exact ⟨p1, c1, p2, c2, rfl⟩
  | [], h => simp at h
  | [_], h => simp at h
  | _ :: _ :: _ :: _, h => simp at h
theorem TabIn.joinR {m mq : Mem} {q : Option Addr} {cq : Nat} {rows : List LD} (h : TabIn mq q cq rows) (hf : ∀ b, mq b ≠ none → m b = none) : TabIn (m.join mq) q cq rows := h.keepT (fun b cur hb => Mem.join_new (hf b (by rw [hb]; simp))) (fun b cur hb => Mem.join_new (hf b (by rw [hb]; simp))) fun _ _ b cur _ hb _ => Mem.join_new (hf b (by rw [hb]; simp))
theorem RowF.joinR {m mq : Mem} {q : Option Addr} {cap : Nat} {fs : List FD} (h : RowF mq q cap fs) (hf : ∀ b, mq b ≠ none → m b = none) : RowF (m.join mq) q cap fs := h.keepT fun b cur _ hb _ => Mem.join_new (hf b (by rw [hb]; simp))
theorem tab_small {t : List LD} {d : List (List (Bool × List Snd))} (h : t.map LD.data = d) (hd : (∀ r ∈ d, r.length < 2 ^ 62 ∧ ∀ f ∈ r, f.2.length < 2 ^ 62) := by decide) : ∀ r ∈ t, r.fs.length < 2 ^ 62 ∧ ∀ f ∈ r.fs, f.w.w.length < 2 ^ 62 := fun r hr => by
  have hm : r.data ∈ d := h ▸ List.mem_map_of_mem hr
  have := hd _ hm
  refine ⟨by have := this.1; unfold LD.data at this; simpa using this, fun f hf => ?_⟩
  exact this.2 f.data (List.mem_map_of_mem hf)
end Go.Sy
/- Chapter 30: the examples hold. Printed by works30.py. -/
namespace Go.Sy
open Go Go.RowKit
theorem spell_ok (bs : List UInt8) : Wok (spellW bs) := fun s hs => by
  obtain ⟨b, _, rfl⟩ := List.mem_map.1 hs
  unfold spellB
  split
  · exact ⟨by decide, by decide⟩
  · split
    · exact ⟨by decide, by decide⟩
    · split
      · exact ⟨by decide, by decide⟩
      · split <;> exact ⟨by decide, by decide⟩
end Go.Sy
namespace Go.Proofs.YtpbbnmjkbfbelaaDoor
open Go Go.Sy Go.RowKit
set_option maxHeartbeats 4000000 in
theorem c_works : RetP Tryd.prog n_law30_works [] VarsOk (.bool true) := by
  refine Fn.of S_law30_works mx [] rfl rfl fun c hV => ?_
  generalize hm0 : Mem.emp = m0
  clear hm0
  refine .callM (c_spell [112, 97, 116] (by decide)) rfl rfl (fun _ => trivial) ?_
  rintro v mq hfr ⟨q1, k1, rfl, r1⟩
  refine ⟨[.p q1, .i (spellW [112, 97, 116]).length, .i k1], ⟨_, _, _, rfl⟩, (slv_fresh _ _ _ _ _).symm, .env (by (try simp only [liE, letsOf, letU, snd, List.append_nil]); rfl) ?_⟩
  have h1 := r1.joinR (m := m0) fun b hb => (hfr b hb).1
  generalize m0.join mq = m1 at *
  clear hfr
  clear r1
  refine .callM (c_spell [112, 105] (by decide)) rfl rfl (fun _ => trivial) ?_
  rintro v mq hfr ⟨q2, k2, rfl, r2⟩
  refine ⟨[.p q2, .i (spellW [112, 105]).length, .i k2], ⟨_, _, _, rfl⟩, (slv_fresh _ _ _ _ _).symm, .env (by (try simp only [liE, letsOf, letU, snd, List.append_nil]); rfl) ?_⟩
  replace h1 := h1.joinL (mq := mq)
  have h2 := r2.joinR (m := m1) fun b hb => (hfr b hb).1
  generalize m1.join mq = m2 at *
  clear hfr
  clear r2
  refine .callM (c_spell [116, 97, 116] (by decide)) rfl rfl (fun _ => trivial) ?_
  rintro v mq hfr ⟨q3, k3, rfl, r3⟩
  refine ⟨[.p q3, .i (spellW [116, 97, 116]).length, .i k3], ⟨_, _, _, rfl⟩, (slv_fresh _ _ _ _ _).symm, .env (by (try simp only [liE, letsOf, letU, snd, List.append_nil]); rfl) ?_⟩
  replace h1 := h1.joinL (mq := mq)
  replace h2 := h2.joinL (mq := mq)
  have h3 := r3.joinR (m := m2) fun b hb => (hfr b hb).1
  generalize m2.join mq = m3 at *
  clear hfr
  clear r3
  have eX : oneW (spellW [112, 97, 116]) (spellW [112, 105]) (spellW [116, 97, 116]) (solveW (spellW [112, 97, 116]) (spellW [112, 105]) (spellW [116, 97, 116])) = (spellW [116, 105], true, 0) := by kernel_rfl
  have cX := c_Solve ⟨q1, k1, spellW [112, 97, 116]⟩ ⟨q2, k2, spellW [112, 105]⟩ ⟨q3, k3, spellW [116, 97, 116]⟩ (spell_ok [112, 97, 116]) (spell_ok [112, 105]) (spell_ok [116, 97, 116]) h1.ok h2.ok h3.ok
  rw [eX] at cX
  refine .callM cX rfl rfl (fun g => ⟨h1.reads g, h2.reads g, h3.reads g, hV.mono g.R⟩) ?_
  rintro v mq hfr ⟨qX, kX, rfl, rX⟩
  refine ⟨[.p qX, .i (spellW [116, 105]).length, .i kX, .b true, .i 0], uOk_of rfl, (res3_fresh _ _ _ _ _ _ _).symm, .env (by (try simp only [liE, letsOf, letU, snd, List.append_nil]); rfl) ?_⟩
  replace h1 := h1.joinL (mq := mq)
  replace h2 := h2.joinL (mq := mq)
  replace h3 := h3.joinL (mq := mq)
  have hX := rX.joinR (m := m3) fun b hb => (hfr b hb).1
  generalize m3.join mq = m4 at *
  clear hfr
  clear rX cX eX
  clear h1 h2 h3
  refine .callM (c_spell [112, 97] (by decide)) rfl rfl (fun _ => trivial) ?_
  rintro v mq hfr ⟨q1, k1, rfl, r1⟩
  refine ⟨[.p q1, .i (spellW [112, 97]).length, .i k1], ⟨_, _, _, rfl⟩, (slv_fresh _ _ _ _ _).symm, .env (by (try simp only [liE, letsOf, letU, snd, List.append_nil]); rfl) ?_⟩
  replace hX := hX.joinL (mq := mq)
  have h1 := r1.joinR (m := m4) fun b hb => (hfr b hb).1
  generalize m4.join mq = m5 at *
  clear hfr
  clear r1
  refine .callM (c_spell [97, 112, 97] (by decide)) rfl rfl (fun _ => trivial) ?_
  rintro v mq hfr ⟨q2, k2, rfl, r2⟩
  refine ⟨[.p q2, .i (spellW [97, 112, 97]).length, .i k2], ⟨_, _, _, rfl⟩, (slv_fresh _ _ _ _ _).symm, .env (by (try simp only [liE, letsOf, letU, snd, List.append_nil]); rfl) ?_⟩
  replace hX := hX.joinL (mq := mq)
  replace h1 := h1.joinL (mq := mq)
  have h2 := r2.joinR (m := m5) fun b hb => (hfr b hb).1
  generalize m5.join mq = m6 at *
  clear hfr
  clear r2
  refine .callM (c_spell [116, 97] (by decide)) rfl rfl (fun _ => trivial) ?_
  rintro v mq hfr ⟨q3, k3, rfl, r3⟩
  refine ⟨[.p q3, .i (spellW [116, 97]).length, .i k3], ⟨_, _, _, rfl⟩, (slv_fresh _ _ _ _ _).symm, .env (by (try simp only [liE, letsOf, letU, snd, List.append_nil]); rfl) ?_⟩
  replace hX := hX.joinL (mq := mq)
  replace h1 := h1.joinL (mq := mq)
  replace h2 := h2.joinL (mq := mq)
  have h3 := r3.joinR (m := m6) fun b hb => (hfr b hb).1
  generalize m6.join mq = m7 at *
  clear hfr
  clear r3
  have eY : oneW (spellW [112, 97]) (spellW [97, 112, 97]) (spellW [116, 97]) (frontW (spellW [112, 97]) (spellW [97, 112, 97]) (spellW [116, 97])) = (spellW [97, 116, 97], true, 0) := by kernel_rfl
  have cY := c_Front ⟨q1, k1, spellW [112, 97]⟩ ⟨q2, k2, spellW [97, 112, 97]⟩ ⟨q3, k3, spellW [116, 97]⟩ (spell_ok [112, 97]) (spell_ok [97, 112, 97]) (spell_ok [116, 97]) h1.ok h2.ok h3.ok
  rw [eY] at cY
  refine .callM cY rfl rfl (fun g => ⟨h1.reads g, h2.reads g, h3.reads g, hV.mono g.R⟩) ?_
  rintro v mq hfr ⟨qY, kY, rfl, rY⟩
  refine ⟨[.p qY, .i (spellW [97, 116, 97]).length, .i kY, .b true, .i 0], uOk_of rfl, (res3_fresh _ _ _ _ _ _ _).symm, .env (by (try simp only [liE, letsOf, letU, snd, List.append_nil]); rfl) ?_⟩
  replace hX := hX.joinL (mq := mq)
  replace h1 := h1.joinL (mq := mq)
  replace h2 := h2.joinL (mq := mq)
  replace h3 := h3.joinL (mq := mq)
  have hY := rY.joinR (m := m7) fun b hb => (hfr b hb).1
  generalize m7.join mq = m8 at *
  clear hfr
  clear rY cY eY
  clear h1 h2 h3
  refine .callM (c_pair [112, 97] [112, 105] (by decide) (by decide)) rfl rfl (fun _ => trivial) ?_
  rintro v mq hfr ⟨q1, k1, q1', k1', rfl, r1, r1'⟩
  refine ⟨[.p q1, .i (spellW [112, 97]).length, .i k1, .p q1', .i (spellW [112, 105]).length, .i k1'], uOk_of rfl, (agg2_fresh _ _ _ _ _ _ _ _).symm, .env (by (try simp only [liE, letsOf, letU, snd, List.append_nil]); rfl) ?_⟩
  replace hX := hX.joinL (mq := mq)
  replace hY := hY.joinL (mq := mq)
  have h1 := r1.joinR (m := m8) fun b hb => (hfr b hb).1
  have h1' := r1'.joinR (m := m8) fun b hb => (hfr b hb).1
  generalize m8.join mq = m9 at *
  clear hfr
  clear r1 r1'
  refine .callM (c_pair [116, 97] [116, 97, 116] (by decide) (by decide)) rfl rfl (fun _ => trivial) ?_
  rintro v mq hfr ⟨q2, k2, q2', k2', rfl, r2, r2'⟩
  refine ⟨[.p q2, .i (spellW [116, 97]).length, .i k2, .p q2', .i (spellW [116, 97, 116]).length, .i k2'], uOk_of rfl, (agg2_fresh _ _ _ _ _ _ _ _).symm, .env (by (try simp only [liE, letsOf, letU, snd, List.append_nil]); rfl) ?_⟩
  replace hX := hX.joinL (mq := mq)
  replace hY := hY.joinL (mq := mq)
  replace h1 := h1.joinL (mq := mq)
  replace h1' := h1'.joinL (mq := mq)
  have h2 := r2.joinR (m := m9) fun b hb => (hfr b hb).1
  have h2' := r2'.joinR (m := m9) fun b hb => (hfr b hb).1
  generalize m9.join mq = m10 at *
  clear hfr
  clear r2 r2'
  refine .alloc fun b0 => ?_
  refine .callM (c_spell [97, 112] (by decide)) rfl rfl (fun _ => trivial) ?_
  rintro v mq hfr ⟨q3, k3, rfl, r3⟩
  refine ⟨[.p q3, .i (spellW [97, 112]).length, .i k3], ⟨_, _, _, rfl⟩, (slv_fresh _ _ _ _ _).symm, .env (by (try simp only [liE, letsOf, letU, snd, List.append_nil]); rfl) ?_⟩
  replace hX := hX.joinL (mq := mq)
  replace hY := hY.joinL (mq := mq)
  replace h1 := h1.joinL (mq := mq)
  replace h1' := h1'.joinL (mq := mq)
  replace h2 := h2.joinL (mq := mq)
  replace h2' := h2'.joinL (mq := mq)
  have h3 := r3.joinR (m := m10) fun b hb => (hfr b hb).1
  generalize m10.join mq = m11 at *
  clear hfr
  clear r3
  refine .callM (c_spell [97, 112, 116] (by decide)) rfl rfl (fun _ => trivial) ?_
  rintro v mq hfr ⟨q4, k4, rfl, r4⟩
  refine ⟨[.p q4, .i (spellW [97, 112, 116]).length, .i k4], ⟨_, _, _, rfl⟩, (slv_fresh _ _ _ _ _).symm, .env (by (try simp only [liE, letsOf, letU, snd, List.append_nil]); rfl) ?_⟩
  replace hX := hX.joinL (mq := mq)
  replace hY := hY.joinL (mq := mq)
  replace h1 := h1.joinL (mq := mq)
  replace h1' := h1'.joinL (mq := mq)
  replace h2 := h2.joinL (mq := mq)
  replace h2' := h2'.joinL (mq := mq)
  replace h3 := h3.joinL (mq := mq)
  have h4 := r4.joinR (m := m11) fun b hb => (hfr b hb).1
  generalize m11.join mq = m12 at *
  clear hfr
  clear r4
  have eE : explW ([⟨⟨q1, k1, spellW [112, 97]⟩, ⟨q1', k1', spellW [112, 105]⟩⟩, ⟨⟨q2, k2, spellW [116, 97]⟩, ⟨q2', k2', spellW [116, 97, 116]⟩⟩] : List MD) (spellW [97, 112]) (spellW [97, 112, 116]) = (1, true, 0) := by kernel_rfl
  have cE := c_Explain (some ⟨b0, 0, none⟩) 2 [⟨⟨q1, k1, spellW [112, 97]⟩, ⟨q1', k1', spellW [112, 105]⟩⟩, ⟨⟨q2, k2, spellW [116, 97]⟩, ⟨q2', k2', spellW [116, 97, 116]⟩⟩] ⟨q3, k3, spellW [97, 112]⟩ ⟨q4, k4, spellW [97, 112, 116]⟩ (by simp only [ModelsOk, List.mem_cons, List.not_mem_nil, or_false]; rintro x (rfl | rfl) <;> first | exact (⟨spell_ok _, spell_ok _, h1.ok, h1'.ok⟩) | exact (⟨spell_ok _, spell_ok _, h2.ok, h2'.ok⟩)) (spell_ok _) (spell_ok _) h3.ok (by show (2 : Nat) < _; decide)
  rw [eE] at cE
  refine .callV cE (fun g => ⟨⟨g.cells (j := 0) rfl rfl rfl, by simp only [List.mem_cons, List.not_mem_nil, or_false]; rintro x (rfl | rfl) <;> first | exact (⟨h1.reads g, h1'.reads g⟩) | exact (⟨h2.reads g, h2'.reads g⟩)⟩, h3.reads g, h4.reads g, hV.mono g.R⟩) (.env (by (try simp only [liE, letsOf, letU, snd, List.append_nil]); rfl) ?_)
  clear cE eE
  clear h1 h1' h2 h2' h3 h4
  refine .callM (c_pair [112, 97] [112, 97, 116] (by decide) (by decide)) rfl rfl (fun _ => trivial) ?_
  rintro v mq hfr ⟨q1, k1, q1', k1', rfl, r1, r1'⟩
  refine ⟨[.p q1, .i (spellW [112, 97]).length, .i k1, .p q1', .i (spellW [112, 97, 116]).length, .i k1'], uOk_of rfl, (agg2_fresh _ _ _ _ _ _ _ _).symm, .env (by (try simp only [liE, letsOf, letU, snd, List.append_nil]); rfl) ?_⟩
  replace hX := hX.joinL (mq := mq)
  replace hY := hY.joinL (mq := mq)
  have h1 := r1.joinR (m := m12) fun b hb => (hfr b hb).1
  have h1' := r1'.joinR (m := m12) fun b hb => (hfr b hb).1
  generalize m12.join mq = m13 at *
  clear hfr
  clear r1 r1'
  refine .callM (c_pair [116, 97] [116, 97, 116] (by decide) (by decide)) rfl rfl (fun _ => trivial) ?_
  rintro v mq hfr ⟨q2, k2, q2', k2', rfl, r2, r2'⟩
  refine ⟨[.p q2, .i (spellW [116, 97]).length, .i k2, .p q2', .i (spellW [116, 97, 116]).length, .i k2'], uOk_of rfl, (agg2_fresh _ _ _ _ _ _ _ _).symm, .env (by (try simp only [liE, letsOf, letU, snd, List.append_nil]); rfl) ?_⟩
  replace hX := hX.joinL (mq := mq)
  replace hY := hY.joinL (mq := mq)
  replace h1 := h1.joinL (mq := mq)
  replace h1' := h1'.joinL (mq := mq)
  have h2 := r2.joinR (m := m13) fun b hb => (hfr b hb).1
  have h2' := r2'.joinR (m := m13) fun b hb => (hfr b hb).1
  generalize m13.join mq = m14 at *
  clear hfr
  clear r2 r2'
  refine .callM (c_pair [116, 105] [105] (by decide) (by decide)) rfl rfl (fun _ => trivial) ?_
  rintro v mq hfr ⟨q3, k3, q3', k3', rfl, r3, r3'⟩
  refine ⟨[.p q3, .i (spellW [116, 105]).length, .i k3, .p q3', .i (spellW [105]).length, .i k3'], uOk_of rfl, (agg2_fresh _ _ _ _ _ _ _ _).symm, .env (by (try simp only [liE, letsOf, letU, snd, List.append_nil]); rfl) ?_⟩
  replace hX := hX.joinL (mq := mq)
  replace hY := hY.joinL (mq := mq)
  replace h1 := h1.joinL (mq := mq)
  replace h1' := h1'.joinL (mq := mq)
  replace h2 := h2.joinL (mq := mq)
  replace h2' := h2'.joinL (mq := mq)
  have h3 := r3.joinR (m := m14) fun b hb => (hfr b hb).1
  have h3' := r3'.joinR (m := m14) fun b hb => (hfr b hb).1
  generalize m14.join mq = m15 at *
  clear hfr
  clear r3 r3'
  refine .alloc fun b1 => ?_
  refine .callM (c_spell [112, 105] (by decide)) rfl rfl (fun _ => trivial) ?_
  rintro v mq hfr ⟨q4, k4, rfl, r4⟩
  refine ⟨[.p q4, .i (spellW [112, 105]).length, .i k4], ⟨_, _, _, rfl⟩, (slv_fresh _ _ _ _ _).symm, .env (by (try simp only [liE, letsOf, letU, snd, List.append_nil]); rfl) ?_⟩
  replace hX := hX.joinL (mq := mq)
  replace hY := hY.joinL (mq := mq)
  replace h1 := h1.joinL (mq := mq)
  replace h1' := h1'.joinL (mq := mq)
  replace h2 := h2.joinL (mq := mq)
  replace h2' := h2'.joinL (mq := mq)
  replace h3 := h3.joinL (mq := mq)
  replace h3' := h3'.joinL (mq := mq)
  have h4 := r4.joinR (m := m15) fun b hb => (hfr b hb).1
  generalize m15.join mq = m16 at *
  clear hfr
  clear r4
  have eZ : extW ([⟨⟨q1, k1, spellW [112, 97]⟩, ⟨q1', k1', spellW [112, 97, 116]⟩⟩, ⟨⟨q2, k2, spellW [116, 97]⟩, ⟨q2', k2', spellW [116, 97, 116]⟩⟩, ⟨⟨q3, k3, spellW [116, 105]⟩, ⟨q3', k3', spellW [105]⟩⟩] : List MD) (spellW [112, 105]) = (spellW [112, 105, 116], 2, 0) := by kernel_rfl
  have cZ := c_Extend (some ⟨b1, 0, none⟩) 3 [⟨⟨q1, k1, spellW [112, 97]⟩, ⟨q1', k1', spellW [112, 97, 116]⟩⟩, ⟨⟨q2, k2, spellW [116, 97]⟩, ⟨q2', k2', spellW [116, 97, 116]⟩⟩, ⟨⟨q3, k3, spellW [116, 105]⟩, ⟨q3', k3', spellW [105]⟩⟩] ⟨q4, k4, spellW [112, 105]⟩ (by simp only [ModelsOk, List.mem_cons, List.not_mem_nil, or_false]; rintro x (rfl | rfl | rfl) <;> first | exact (⟨spell_ok _, spell_ok _, h1.ok, h1'.ok⟩) | exact (⟨spell_ok _, spell_ok _, h2.ok, h2'.ok⟩) | exact (⟨spell_ok _, spell_ok _, h3.ok, h3'.ok⟩)) (spell_ok _) h4.ok (by show (3 : Nat) < _; decide)
  rw [eZ] at cZ
  refine .callM cZ rfl rfl (fun g => ⟨⟨g.cells (j := 1) rfl rfl rfl, by simp only [List.mem_cons, List.not_mem_nil, or_false]; rintro x (rfl | rfl | rfl) <;> first | exact (⟨h1.reads g, h1'.reads g⟩) | exact (⟨h2.reads g, h2'.reads g⟩) | exact (⟨h3.reads g, h3'.reads g⟩)⟩, h4.reads g, hV.mono g.R⟩) ?_
  rintro v mq hfr ⟨qZ, kZ, rfl, rZ⟩
  refine ⟨[.p qZ, .i (spellW [112, 105, 116]).length, .i kZ, .i 2, .i 0], uOk_of rfl, (ext_fresh _ _ _ _ _ _ _).symm, .env (by (try simp only [liE, letsOf, letU, snd, List.append_nil]); rfl) ?_⟩
  replace hX := hX.joinL (mq := mq)
  replace hY := hY.joinL (mq := mq)
  replace h1 := h1.joinL (mq := mq)
  replace h1' := h1'.joinL (mq := mq)
  replace h2 := h2.joinL (mq := mq)
  replace h2' := h2'.joinL (mq := mq)
  replace h3 := h3.joinL (mq := mq)
  replace h3' := h3'.joinL (mq := mq)
  replace h4 := h4.joinL (mq := mq)
  have hZ := rZ.joinR (m := m16) fun b hb => (hfr b hb).1
  generalize m16.join mq = m17 at *
  clear hfr
  clear rZ cZ eZ
  clear h1 h1' h2 h2' h3 h3' h4
  refine .alloc fun b2 => ?_
  refine .callM (c_row (some ⟨b2, 0, none⟩) 2 [[112, 97, 116], [112, 97, 116, 97]] (by decide) (by decide)) rfl rfl (fun g => g.cells (j := 2) rfl rfl rfl) ?_
  rintro v mq hfr ⟨q1, k1, fs1, rfl, d1, rF1, rW1⟩
  obtain ⟨p11, c11, p12, c12, rfl⟩ := rows2 d1
  refine ⟨[.p q1, .i 2, .i k1], ⟨_, _, _, rfl⟩, (slv_fresh _ _ _ _ _).symm, .env (by (try simp only [liE, letsOf, letU, snd, List.append_nil]); rfl) ?_⟩
  replace hX := hX.joinL (mq := mq)
  replace hY := hY.joinL (mq := mq)
  replace hZ := hZ.joinL (mq := mq)
  have hF1 := rF1.joinR (m := m17) fun b hb => (hfr b hb).1
  have g11 := (rW1 _ (List.mem_cons_self ..)).joinR (m := m17) fun b hb => (hfr b hb).1
  have g12 := (rW1 _ (List.mem_cons_of_mem _ (List.mem_cons_self ..))).joinR (m := m17) fun b hb => (hfr b hb).1
  generalize m17.join mq = m18 at *
  clear hfr rF1 rW1 d1
  refine .alloc fun b3 => ?_
  refine .callM (c_row (some ⟨b3, 0, none⟩) 2 [[116, 105, 116], [116, 117, 116, 97]] (by decide) (by decide)) rfl rfl (fun g => g.cells (j := 3) rfl rfl rfl) ?_
  rintro v mq hfr ⟨q2, k2, fs2, rfl, d2, rF2, rW2⟩
  obtain ⟨p21, c21, p22, c22, rfl⟩ := rows2 d2
  refine ⟨[.p q2, .i 2, .i k2], ⟨_, _, _, rfl⟩, (slv_fresh _ _ _ _ _).symm, .env (by (try simp only [liE, letsOf, letU, snd, List.append_nil]); rfl) ?_⟩
  replace hX := hX.joinL (mq := mq)
  replace hY := hY.joinL (mq := mq)
  replace hZ := hZ.joinL (mq := mq)
  replace hF1 := hF1.joinL (mq := mq)
  replace g11 := g11.joinL (mq := mq)
  replace g12 := g12.joinL (mq := mq)
  have hF2 := rF2.joinR (m := m18) fun b hb => (hfr b hb).1
  have g21 := (rW2 _ (List.mem_cons_self ..)).joinR (m := m18) fun b hb => (hfr b hb).1
  have g22 := (rW2 _ (List.mem_cons_of_mem _ (List.mem_cons_self ..))).joinR (m := m18) fun b hb => (hfr b hb).1
  generalize m18.join mq = m19 at *
  clear hfr rF2 rW2 d2
  refine .alloc fun b4 => ?_
  have eT : levR ([⟨q1, k1, [⟨true, ⟨p11, c11, spellW [112, 97, 116]⟩⟩, ⟨true, ⟨p12, c12, spellW [112, 97, 116, 97]⟩⟩]⟩, ⟨q2, k2, [⟨true, ⟨p21, c21, spellW [116, 105, 116]⟩⟩, ⟨true, ⟨p22, c22, spellW [116, 117, 116, 97]⟩⟩]⟩] : List LD) 1 0 = ([[(true, spellW [112, 97, 116]), (true, spellW [112, 97, 116, 97])], [(true, spellW [116, 105, 116]), (true, spellW [116, 105, 116, 97])]], 0) := by kernel_rfl
  have cT := c_Level (some ⟨b4, 0, none⟩) 2 [⟨q1, k1, [⟨true, ⟨p11, c11, spellW [112, 97, 116]⟩⟩, ⟨true, ⟨p12, c12, spellW [112, 97, 116, 97]⟩⟩]⟩, ⟨q2, k2, [⟨true, ⟨p21, c21, spellW [116, 105, 116]⟩⟩, ⟨true, ⟨p22, c22, spellW [116, 117, 116, 97]⟩⟩]⟩] 1 0 (by show (2 : Nat) < _; decide) (by simp only [List.mem_cons, List.not_mem_nil, or_false]; rintro r (rfl | rfl) <;> first | exact (⟨by show (2 : Nat) < _; decide, hF1.le, hF1.nil⟩) | exact (⟨by show (2 : Nat) < _; decide, hF2.le, hF2.nil⟩)) (by intro r hr f hf; simp only [List.mem_cons, List.not_mem_nil, or_false] at hr; rcases hr with rfl | rfl <;> (simp only [List.mem_cons, List.not_mem_nil, or_false] at hf; rcases hf with rfl | rfl) <;> first | exact (⟨spell_ok _, g11.ok⟩) | exact (⟨spell_ok _, g12.ok⟩) | exact (⟨spell_ok _, g21.ok⟩) | exact (⟨spell_ok _, g22.ok⟩))
  rw [eT] at cT
  refine .callM cT rfl rfl (fun g => ⟨g.cells (j := 4) rfl rfl rfl, by intro r hr; simp only [List.mem_cons, List.not_mem_nil, or_false] at hr; rcases hr with rfl | rfl <;> first | exact (⟨hF1.reads g, by intro f hf; simp only [List.mem_cons, List.not_mem_nil, or_false] at hf; rcases hf with rfl | rfl <;> first | exact (g11.reads g) | exact (g12.reads g)⟩) | exact (⟨hF2.reads g, by intro f hf; simp only [List.mem_cons, List.not_mem_nil, or_false] at hf; rcases hf with rfl | rfl <;> first | exact (g21.reads g) | exact (g22.reads g)⟩)⟩) ?_
  rintro v mq hfr ⟨qT, kT, tT, rfl, dT, rT⟩
  have lT : tT.length = 2 := by have := congrArg List.length dT; simpa using this
  rw [lT]
  refine ⟨[.p qT, .i 2, .i kT, .i 0], uOk_of rfl, (tab_fresh _ _ _ _ _ _).symm, .env (by (try simp only [liE, letsOf, letU, snd, List.append_nil]); rfl) ?_⟩
  replace hX := hX.joinL (mq := mq)
  replace hY := hY.joinL (mq := mq)
  replace hZ := hZ.joinL (mq := mq)
  replace hF1 := hF1.joinL (mq := mq)
  replace g11 := g11.joinL (mq := mq)
  replace g12 := g12.joinL (mq := mq)
  replace hF2 := hF2.joinL (mq := mq)
  replace g21 := g21.joinL (mq := mq)
  replace g22 := g22.joinL (mq := mq)
  have hT : TabIn (m19.join mq) qT kT tT := rT.joinR fun b hb => (hfr b hb).1
  generalize m19.join mq = m20 at *
  clear hfr rT cT eT
  clear hF1 g11 g12 hF2 g21 g22
  refine .yes rfl ?_
  refine .callM (c_spell [116, 105] (by decide)) rfl rfl (fun _ => trivial) ?_
  rintro v mq hfr ⟨q1, k1, rfl, r1⟩
  refine ⟨[.p q1, .i (spellW [116, 105]).length, .i k1], ⟨_, _, _, rfl⟩, (slv_fresh _ _ _ _ _).symm, .env (by (try simp only [liE, letsOf, letU, snd, List.append_nil]); rfl) ?_⟩
  replace hX := hX.joinL (mq := mq)
  replace hY := hY.joinL (mq := mq)
  replace hZ := hZ.joinL (mq := mq)
  replace hT := hT.joinL (mq := mq)
  have h1 := r1.joinR (m := m20) fun b hb => (hfr b hb).1
  generalize m20.join mq = m21 at *
  clear hfr
  clear r1
  refine .callV (c_refEqual qX q1 kX k1 (spellW [116, 105]) (spellW [116, 105]) (by decide)) (fun g => ⟨hX.reads g, h1.reads g⟩) (.env (by (try simp only [liE, letsOf, letU, snd, List.append_nil]); rfl) (.yes (by rfl) ?_))
  clear h1 hX
  refine .callM (c_spell [97, 116, 97] (by decide)) rfl rfl (fun _ => trivial) ?_
  rintro v mq hfr ⟨q1, k1, rfl, r1⟩
  refine ⟨[.p q1, .i (spellW [97, 116, 97]).length, .i k1], ⟨_, _, _, rfl⟩, (slv_fresh _ _ _ _ _).symm, .env (by (try simp only [liE, letsOf, letU, snd, List.append_nil]); rfl) ?_⟩
  replace hY := hY.joinL (mq := mq)
  replace hZ := hZ.joinL (mq := mq)
  replace hT := hT.joinL (mq := mq)
  have h1 := r1.joinR (m := m21) fun b hb => (hfr b hb).1
  generalize m21.join mq = m22 at *
  clear hfr
  clear r1
  refine .callV (c_refEqual qY q1 kY k1 (spellW [97, 116, 97]) (spellW [97, 116, 97]) (by decide)) (fun g => ⟨hY.reads g, h1.reads g⟩) (.env (by (try simp only [liE, letsOf, letU, snd, List.append_nil]); rfl) (.yes (by rfl) ?_))
  clear h1 hY
  refine .callM (c_spell [112, 105, 116] (by decide)) rfl rfl (fun _ => trivial) ?_
  rintro v mq hfr ⟨q1, k1, rfl, r1⟩
  refine ⟨[.p q1, .i (spellW [112, 105, 116]).length, .i k1], ⟨_, _, _, rfl⟩, (slv_fresh _ _ _ _ _).symm, .env (by (try simp only [liE, letsOf, letU, snd, List.append_nil]); rfl) ?_⟩
  replace hZ := hZ.joinL (mq := mq)
  replace hT := hT.joinL (mq := mq)
  have h1 := r1.joinR (m := m22) fun b hb => (hfr b hb).1
  generalize m22.join mq = m23 at *
  clear hfr
  clear r1
  refine .callV (c_refEqual qZ q1 kZ k1 (spellW [112, 105, 116]) (spellW [112, 105, 116]) (by decide)) (fun g => ⟨hZ.reads g, h1.reads g⟩) (.env (by (try simp only [liE, letsOf, letU, snd, List.append_nil]); rfl) (.yes (by rfl) ?_))
  clear h1 hZ
  refine .alloc fun b5 => ?_
  refine .callM (c_row (some ⟨b5, 0, none⟩) 2 [[112, 97, 116], [112, 97, 116, 97]] (by decide) (by decide)) rfl rfl (fun g => g.cells (j := 5) rfl rfl rfl) ?_
  rintro v mq hfr ⟨q1, k1, fs1, rfl, d1, rF1, rW1⟩
  obtain ⟨p11, c11, p12, c12, rfl⟩ := rows2 d1
  refine ⟨[.p q1, .i 2, .i k1], ⟨_, _, _, rfl⟩, (slv_fresh _ _ _ _ _).symm, .env (by (try simp only [liE, letsOf, letU, snd, List.append_nil]); rfl) ?_⟩
  replace hT := hT.joinL (mq := mq)
  have hF1 := rF1.joinR (m := m23) fun b hb => (hfr b hb).1
  have g11 := (rW1 _ (List.mem_cons_self ..)).joinR (m := m23) fun b hb => (hfr b hb).1
  have g12 := (rW1 _ (List.mem_cons_of_mem _ (List.mem_cons_self ..))).joinR (m := m23) fun b hb => (hfr b hb).1
  generalize m23.join mq = m24 at *
  clear hfr rF1 rW1 d1
  refine .alloc fun b6 => ?_
  refine .callM (c_row (some ⟨b6, 0, none⟩) 2 [[116, 105, 116], [116, 105, 116, 97]] (by decide) (by decide)) rfl rfl (fun g => g.cells (j := 6) rfl rfl rfl) ?_
  rintro v mq hfr ⟨q2, k2, fs2, rfl, d2, rF2, rW2⟩
  obtain ⟨p21, c21, p22, c22, rfl⟩ := rows2 d2
  refine ⟨[.p q2, .i 2, .i k2], ⟨_, _, _, rfl⟩, (slv_fresh _ _ _ _ _).symm, .env (by (try simp only [liE, letsOf, letU, snd, List.append_nil]); rfl) ?_⟩
  replace hT := hT.joinL (mq := mq)
  replace hF1 := hF1.joinL (mq := mq)
  replace g11 := g11.joinL (mq := mq)
  replace g12 := g12.joinL (mq := mq)
  have hF2 := rF2.joinR (m := m24) fun b hb => (hfr b hb).1
  have g21 := (rW2 _ (List.mem_cons_self ..)).joinR (m := m24) fun b hb => (hfr b hb).1
  have g22 := (rW2 _ (List.mem_cons_of_mem _ (List.mem_cons_self ..))).joinR (m := m24) fun b hb => (hfr b hb).1
  generalize m24.join mq = m25 at *
  clear hfr rF2 rW2 d2
  refine .alloc fun b7 => ?_
  have cS := c_sameT qT (some ⟨b7, 0, none⟩) kT 2 tT [⟨q1, k1, [⟨true, ⟨p11, c11, spellW [112, 97, 116]⟩⟩, ⟨true, ⟨p12, c12, spellW [112, 97, 116, 97]⟩⟩]⟩, ⟨q2, k2, [⟨true, ⟨p21, c21, spellW [116, 105, 116]⟩⟩, ⟨true, ⟨p22, c22, spellW [116, 105, 116, 97]⟩⟩]⟩] (by rw [lT]; decide) (tab_small dT)
  rw [lT, dT, decide_eq_true (show ([[(true, spellW [112, 97, 116]), (true, spellW [112, 97, 116, 97])], [(true, spellW [116, 105, 116]), (true, spellW [116, 105, 116, 97])]] : List (List (Bool × List Snd))) = ([⟨q1, k1, [⟨true, ⟨p11, c11, spellW [112, 97, 116]⟩⟩, ⟨true, ⟨p12, c12, spellW [112, 97, 116, 97]⟩⟩]⟩, ⟨q2, k2, [⟨true, ⟨p21, c21, spellW [116, 105, 116]⟩⟩, ⟨true, ⟨p22, c22, spellW [116, 105, 116, 97]⟩⟩]⟩] : List LD).map LD.data from rfl)] at cS
  exact .callV cS (fun g => ⟨hT.reads g, ⟨g.cells (j := 7) rfl rfl rfl, by intro r hr; simp only [List.mem_cons, List.not_mem_nil, or_false] at hr; rcases hr with rfl | rfl <;> first | exact (⟨hF1.reads g, by intro f hf; simp only [List.mem_cons, List.not_mem_nil, or_false] at hf; rcases hf with rfl | rfl <;> first | exact (g11.reads g) | exact (g12.reads g)⟩) | exact (⟨hF2.reads g, by intro f hf; simp only [List.mem_cons, List.not_mem_nil, or_false] at hf; rcases hf with rfl | rfl <;> first | exact (g21.reads g) | exact (g22.reads g)⟩)⟩⟩) (.ret rfl rfl)
end Go.Proofs.YtpbbnmjkbfbelaaDoor
