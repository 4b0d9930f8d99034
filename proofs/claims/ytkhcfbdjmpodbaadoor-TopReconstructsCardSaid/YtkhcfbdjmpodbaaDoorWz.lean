/- A tree, an entry and costs as arguments, with what bounds their sizes. -/
import Derived.Test.YtkhcfbdjmpodbaaDoorBt
import Derived.Test.YtkhcfbdjmpodbaaDoorK5
set_option linter.unusedSimpArgs false
set_option linter.unusedVariables false
namespace Go.Proofs.YtkhcfbdjmpodbaaDoor
open Go Go.Sy Go.ChangeShapes Go.WideShapes Go.ChangeAt Go.WideElems Go.RowKit Go.Joins Go.Deep
section
variable {H : Type} {enc : TypeId × Value → H} {P : Program} {w : World} {base : Nat} {spare : Nat → Bool} {held : Bool}
theorem weightsAll_mem {e : TypeId} {d : DataW H} : ∀ {l : List (DataW H)}, d ∈ l → ∀ y ∈ d.weights P e, y ∈ DataW.weightsAll P e l
  | x :: l, h, y, hy => by
    simp only [DataW.weightsAll, List.mem_append]
    rcases List.mem_cons.1 h with rfl | h
    · exact .inl hy
    · exact .inr (weightsAll_mem h y hy)
theorem weightsEach_at : ∀ {ts : List TypeId} {ds : List (DataW H)} {j : Nat} {t : TypeId} {d : DataW H}, (DataW.weightsEach P ts ds).all (· ≤ reachBytes) = true → ts[j]? = some t → ds[j]? = some d → (d.weights P t).all (· ≤ reachBytes) = true
  | t :: ts, d :: ds, 0, _, _, h, h1, h2 => by
    cases h1; cases h2
    simp only [DataW.weightsEach, List.all_append, Bool.and_eq_true] at h
    exact h.1
  | t :: ts, d :: ds, j + 1, _, _, h, h1, h2 => by
    simp only [DataW.weightsEach, List.all_append, Bool.and_eq_true] at h
    exact weightsEach_at h.2 h1 h2
  | [], _, _, _, _, _, h1, _ => by simp at h1
  | _ :: _, [], _, _, _, _, _, h2 => by simp at h2
theorem weightsEach_more {us : List TypeId} : ∀ {ts : List TypeId} {ds : List (DataW H)}, ds.length = ts.length → DataW.weightsEach P (ts ++ us) ds = DataW.weightsEach P ts ds
  | [], [], _ => by cases us <;> rfl
  | t :: ts, d :: ds, h => by
    rw [List.cons_append]
    simp only [DataW.weightsEach]
    rw [weightsEach_more (by simpa using h)]
  | [], _ :: _, h => by simp at h
  | _ :: _, [], h => by simp at h
def ReadsW (enc : TypeId × Value → H) (P : Program) (w : World) (base : Nat) (spare : Nat → Bool) (held : Bool) {α : Type} (e : TypeId) (f : α → List Value) (Q : α → Prop) : Prop :=
  ∀ n cs x, DataW.trod enc P w base spare held n e cs = some x → (x.1.weights P e).all (· ≤ reachBytes) = true → cs.length = P.cellsOf e → ∃ a : α, cs = f a ∧ Q a
theorem readsW {α : Type} {e : TypeId} {f : α → List Value} {Q : α → Prop} (h : Reads enc P w base spare held e f Q) : ReadsW enc P w base spare held e f Q := fun n cs x h1 _ h3 => h n cs x h1 h3
theorem open_slW {α : Type} [Inhabited α] {t e : TypeId} {k : Nat} {fuel : Nat} {cs : List Value} {x : DataW H × List MemPlace} {f : α → List Value} {Q : α → Prop} (ht : P.underlying t = some (.slice e)) (hk : P.cellsOf e = k) (hel : ReadsW enc P w base spare held e f Q) (h : DataW.trod enc P w base spare held fuel t cs = some x) (hw : (x.1.weights P t).all (· ≤ reachBytes) = true) :
    ∃ s : SL α, cs = [s.v] ∧ s.good w f Q ∧ s.l.length * P.bytesOf e ≤ reachBytes := by
  rcases open_slice ht h with ⟨rfl, _⟩ | ⟨a, len, cap, m, n, D, Pl, rfl, _, hl, hm, hmm, hxe, hx⟩
  · exact ⟨⟨none, 0, []⟩, rfl, ⟨fun i x hx => by simp at hx, ⟨fun _ => rfl, Nat.le_refl _⟩, Nat.zero_le _, fun a ha => by cases ha⟩, by simp⟩
  · have hlm : len ≤ m := by rw [hmm]; split <;> omega
    rw [hxe] at hw
    simp only [DataW.weights, ht, List.all_cons, List.all_append, Bool.and_eq_true, List.length_map, List.length_range, decide_eq_true_eq] at hw
    obtain ⟨hw0, hw1, _⟩ := hw
    have hwb : len * P.bytesOf e ≤ reachBytes := Nat.le_trans (Nat.mul_le_mul_right _ (by omega)) hw0
    obtain ⟨F, hF⟩ := choose_lt (n := len) (p := fun i a' => (f a').length = k ∧ Q a' ∧ ∀ j, j < k → w.cell? ((a.add (i * k)).add j) = (f a')[j]?) (fun i hi => by
      obtain ⟨cs', h1, h2⟩ := hx i (by omega)
      obtain ⟨_, hlen, hcell⟩ := World.cells?_some h1
      obtain ⟨y, rfl, hQ⟩ := hel n cs' _ h2 (List.all_eq_true.2 fun y hy => List.all_eq_true.1 hw1 y (weightsAll_mem (List.mem_map.2 ⟨i, List.mem_range.2 hi, rfl⟩) y hy)) hlen
      rw [hk] at hlen hcell
      exact ⟨y, hlen, hQ, hcell⟩)
    refine ⟨⟨some a, cap, (List.range len).map F⟩, by simp [SL.v, slv, addr_zero], ⟨fun i x hx => ?_, ⟨(fun h => by cases h), by simp; omega⟩, (by simp; omega), fun y hy => ?_⟩, by simpa using hwb⟩
    · have hall : ∀ y ∈ (List.range len).map F, (f y).length = k := fun y hy => by
        obtain ⟨i, hi, rfl⟩ := List.mem_map.1 hy
        exact (hF i (List.mem_range.1 hi)).1
      obtain ⟨j, y, h1, h2, h3, h4⟩ := flatMap_at f k _ hall i x hx
      rw [List.getElem?_map, Option.map_eq_some_iff] at h1
      obtain ⟨j', hj, rfl⟩ := h1
      obtain ⟨hj1, hj2⟩ := List.getElem?_eq_some_iff.1 hj
      rw [List.getElem_range] at hj2
      subst hj2
      rw [List.length_range] at hj1
      have hc := (hF j hj1).2.2 (i - j * k) h3
      rw [h4] at hc
      have h0 := hF 0 (by omega)
      have hc0 := h0.2.2 0 (by omega)
      have hl0 : 0 < (f (F 0)).length := by have := h0.1; omega
      clear h0
      rw [List.getElem?_eq_getElem hl0, Nat.zero_mul, addr_zero, addr_zero] at hc0
      have hs := spot_none hc0
      rw [add_add, ← h2] at hc
      obtain ⟨b, o, sp⟩ := a
      simp only at hs
      subst hs
      refine ⟨b, o, rfl, ?_⟩
      rw [addr_add] at hc
      exact hc
    · obtain ⟨i, hi, rfl⟩ := List.mem_map.1 hy
      exact (hF i (List.mem_range.1 hi)).2.1
theorem arg_slW {α : Type} [Inhabited α] {r : Reach} {b0 : Nat} {t e : TypeId} {k : Nat} {v : Value} {d : DataW H} {p : List MemPlace} {f : α → List Value} {Q : α → Prop} (ht : P.underlying t = some (.slice e)) (hk : P.cellsOf e = k) (hel : ReadsW enc P w base spare held e f Q)
    (hv : Value.okWide P w r b0 t v) (h : DataW.Trod enc P w base spare held t v d p) (hw : (d.weights P t).all (· ≤ reachBytes) = true) : ∃ s : SL α, v = s.v ∧ s.good w f Q ∧ s.l.length * P.bytesOf e ≤ reachBytes := by
  obtain ⟨fuel, hf⟩ := h
  obtain ⟨s, e0, hs⟩ := open_slW ht hk hel hf hw
  have hcs : v.cells.toList = [s.v] := e0
  refine ⟨s, ?_, hs⟩
  unfold Value.okWide at hv
  rw [ht] at hv
  simp only [] at hv
  cases v with
  | agg l => simp [Cell.okWide, Cell.ok, ht] at hv
  | _ => simpa [Value.cells] using hcs
theorem reads_slW {α : Type} [Inhabited α] {t e : TypeId} {k : Nat} {f : α → List Value} {Q : α → Prop} (ht : P.underlying t = some (.slice e)) (hk : P.cellsOf e = k) (hel : ReadsW enc P w base spare held e f Q) : ReadsW enc P w base spare held t (fun s : SL α => [s.v]) (fun s => s.good w f Q ∧ s.l.length * P.bytesOf e ≤ reachBytes) := fun n cs x h hw _ => open_slW ht hk hel h hw
theorem cells_map1 {V : Mv} {p : Option Addr} {l : List Int} {k : IntKind} (h : Cells V p (l.flatMap fun x => [.int k x])) : Cells V p (l.map (.int k)) := by rw [flatMap_one] at h; exact h
theorem arg_structW {α : Type} {r : Reach} {b0 : Nat} {t : TypeId} {fs : Array Field} {v : Value} {d : DataW H} {p : List MemPlace} {f : α → List Value} {Q : α → Prop} (hs : P.underlying t = some (.struct fs)) (hr : ReadsW enc P w base spare held t f Q)
    (hv : Value.okWide P w r b0 t v) (h : DataW.Trod enc P w base spare held t v d p) (hw : (d.weights P t).all (· ≤ reachBytes) = true) : ∃ a : α, v = .agg (f a).toArray ∧ Q a := by
  unfold Value.okWide at hv
  rw [hs] at hv
  obtain ⟨cs, rfl, hsz, _⟩ := hv
  obtain ⟨fuel, hf⟩ := h
  obtain ⟨a, e, hQ⟩ := hr fuel _ _ hf hw (by simpa [Value.cells] using hsz)
  refine ⟨a, ?_, hQ⟩
  have e' : cs.toList = f a := e
  rw [← e']
theorem reads_struct2 {α β : Type} {e : TypeId} {f0 f1 : Field} {k0 k1 : Nat} {F0 : α → List Value} {F1 : β → List Value} {Q0 : α → Prop} {Q1 : β → Prop} (he : P.underlying e = some (.struct #[f0, f1])) (hC : P.cellsOf e = k0 + k1) (o0 : f0.offset = 0) (o1 : f1.offset = k0) (c0 : P.cellsOf f0.type = k0) (c1 : P.cellsOf f1.type = k1)
    (r0 : ReadsW enc P w base spare held f0.type F0 Q0) (r1 : ReadsW enc P w base spare held f1.type F1 Q1) : ReadsW enc P w base spare held e (fun s : α × β => F0 s.1 ++ F1 s.2) (fun s => Q0 s.1 ∧ Q1 s.2) := fun n cs x h hw hl => by
  obtain ⟨xs, k, _, hx, _, hxl, hf⟩ := DataW.trod_struct he h
  rw [hC] at hl
  have q0 := hf 0 f0 rfl
  have q1 := hf 1 f1 rfl
  rw [o0, c0] at q0
  rw [o1, c1] at q1
  match xs, hxl with
  | [x0, x1], _ =>
    rw [hx] at hw
    simp only [List.map_cons, List.map_nil, DataW.weights, he, DataW.weightsEach, List.append_nil, List.all_append, Bool.and_eq_true] at hw
    obtain ⟨a, e0, hA⟩ := r0 _ _ _ q0 hw.1 (by rw [List.length_take, List.length_drop, c0]; omega)
    obtain ⟨b, e1, hB⟩ := r1 _ _ _ q1 hw.2 (by rw [List.length_take, List.length_drop, c1]; omega)
    refine ⟨(a, b), ?_, hA, hB⟩
    show cs = F0 a ++ F1 b
    rw [← e0, ← e1, List.drop_zero, List.take_of_length_le (l := cs.drop k0) (by rw [List.length_drop]; omega), List.take_append_drop]
theorem reads_string {e : TypeId} (h0 : P.underlying e = some .string) : ReadsW enc P w base spare held e (fun s : List UInt8 => [strV s]) (fun s => s.length ≤ reachBytes) := fun n cs x h hw _ => by
  obtain ⟨s, e0, hx, _⟩ := DataW.trod_string h0 h
  rw [hx] at hw
  simp only [DataW.weights, List.all_cons, List.all_nil, Bool.and_true, decide_eq_true_eq] at hw
  exact ⟨s.data.toList, by rw [e0]; simp [strV], hw⟩
theorem reads_bool {e : TypeId} (h0 : P.underlying e = some .bool) : Reads enc P w base spare held e (fun s : Bool => [.bool s]) (fun _ => True) := fun n cs x h _ => by
  obtain ⟨b, e0, _⟩ := DataW.trod_bool h0 h
  exact ⟨b, e0, trivial⟩
end
abbrev NGood (w : World) (b : Nat) (s : SL (Int × List UInt8)) : Prop := s.good w (fun x => [.int .i64 x.1] ++ [strV x.2]) (fun x => (Lit.int .i64 x.1).wf = true ∧ x.2.length ≤ reachBytes) ∧ s.l.length * b ≤ reachBytes
def ndOf (x : Int × List UInt8) : ND := ⟨x.1, x.2⟩
theorem nodes_at {w : World} {b : Nat} {s : SL (Int × List UInt8)} (h : NGood w b s) : Cells (Mv.of w) s.p (ncells (s.l.map ndOf)) := by
  have := h.1.1
  unfold ncells
  rw [List.flatMap_map]
  exact this
theorem nodes_nm {w : World} {b : Nat} {s : SL (Int × List UInt8)} (h : NGood w b s) : ∀ x ∈ s.l.map ndOf, x.nm.length < 2 ^ 62 := fun x hx => by
  obtain ⟨y, hy, rfl⟩ := List.mem_map.1 hx
  have := (h.1.2.2.2 y hy).2
  unfold reachBytes at this
  show y.2.length < _
  omega
theorem reach45 {n b : Nat} (h : n * b ≤ reachBytes) (hb : 8 ≤ b) : n < 2 ^ 45 := by
  have := Nat.le_trans (Nat.mul_le_mul_left n hb) h
  unfold reachBytes at this
  omega
abbrev WGood (w : World) (b : Nat) (s : SL Snd) : Prop := s.good w scell Sok ∧ s.l.length * b ≤ reachBytes
abbrev FGoodK (w : World) (b b2 : Nat) (s : SL (Bool × SL Snd)) : Prop := s.good w (fun x => [.bool x.1] ++ [x.2.v]) (fun x => True ∧ WGood w b x.2) ∧ s.l.length * b2 ≤ reachBytes
def fdOf (s : Bool × SL Snd) : FD := ⟨s.1, ⟨s.2.p, s.2.cap, s.2.l⟩⟩
theorem fcells_of (l : List (Bool × SL Snd)) : l.flatMap (fun s => [.bool s.1] ++ [s.2.v]) = fcells (l.map fdOf) := by
  unfold fcells
  rw [List.flatMap_map]
  rfl
theorem forms_at {w : World} {b b2 : Nat} {s : SL (Bool × SL Snd)} (h : FGoodK w b b2 s) : FormsAt (Mv.of w) s.p (s.l.map fdOf) := ⟨by rw [← fcells_of]; exact h.1.1, fun x hx => by
  obtain ⟨y, hy, rfl⟩ := List.mem_map.1 hx
  exact (h.1.2.2.2 y hy).2.1.1⟩
theorem forms_ok {w : World} {b b2 : Nat} {s : SL (Bool × SL Snd)} (h : FGoodK w b b2 s) : ∀ f ∈ s.l.map fdOf, Wok f.w.w := fun x hx => by
  obtain ⟨y, hy, rfl⟩ := List.mem_map.1 hx
  exact (h.1.2.2.2 y hy).2.1.2.2.2
theorem forms_w {w : World} {b b2 : Nat} {s : SL (Bool × SL Snd)} (h : FGoodK w b b2 s) (hb : 8 ≤ b) : ∀ f ∈ s.l.map fdOf, f.w.w.length < 2 ^ 45 := fun x hx => by
  obtain ⟨y, hy, rfl⟩ := List.mem_map.1 hx
  exact reach45 (h.1.2.2.2 y hy).2.2 hb
theorem ints_at {w : World} {s : SL Int} {Q : Int → Prop} (h : s.good w (fun x => [.int .i64 x]) Q) : CostsAt (Mv.of w) s.p s.l := cells_map1 h.1
set_option maxRecDepth 100000 in
theorem law_liftedW {f : FuncId} {fn : Func} {s : ChangeSpec} {tb : TypeId} (args0 : Array Value) (noInit : Tryd.prog.inits.idxOf? f = none) (hfn : Tryd.prog.funcs[f]? = some fn) (hvars : s.vars = [])
    (hr : readable Tryd.prog fn.params.toList = true) (hres : fn.resultTypes = #[tb]) (hu : Tryd.prog.underlying tb = some .bool)
    (hs : ∀ (H : Type) (ds : List (DataW H)), ds.length = fn.params.toList.length → s.fn H ds = { results := [.lit (.bool true)], args := ds })
    (os : Os) (started : os.Started) (H : Type) (enc : TypeId × Value → H)
    (h1 : ((World.doorLaid Tryd.prog 400 os).forCall (fun _ _ => 0) ⟨#[], args0, []⟩).Shaped Tryd.prog)
    (h2 : Input.okWideB Tryd.prog ((World.doorLaid Tryd.prog 400 os).forCall (fun _ _ => 0) ⟨#[], args0, []⟩) f ⟨#[], args0, []⟩ = true)
    (h3 : s.preB enc Tryd.prog fn [] false ((World.doorLaid Tryd.prog 400 os).forCall (fun _ _ => 0) ⟨#[], args0, []⟩).memory args0 8 = true)
    (h4 : s.sizedB enc Tryd.prog fn false ((World.doorLaid Tryd.prog 400 os).forCall (fun _ _ => 0) ⟨#[], args0, []⟩).memory args0 8 = true)
    (hc : ∀ (W : World) (base : Nat) (args : Array Value) (ds : List (DataW H)) (p : List MemPlace), VarsK (Mv.of W) → (∀ (j : Nat) t v, fn.params[j]? = some t → args[j]? = some v → Value.okWide Tryd.prog W .any base t v) →
      DataW.TrodAll enc Tryd.prog W 0 (fun _ => true) true fn.params.toList args.toList ds p → (DataW.weightsEach Tryd.prog fn.params.toList ds).all (· ≤ reachBytes) = true → ∃ (vs : List Value) (pre : Mv → Prop), args = vs.toArray ∧ pre (Mv.of W) ∧ RetP Tryd.prog f vs pre (.bool true)) :
    ReturnsInHanded {} Tryd.checked os f .any (fun w args => (s.pre enc Tryd.prog fn [] false w args ∧ laidMetH Tryd.prog laidL w) ∧ sizedMet enc Tryd.prog fn (OpenSpec.ofChange s) false w args) (s.post enc Tryd.prog fn false true false false) := by
  refine returnsInHanded_of_change_and (C := Tryd.checked) (X := fun w _ => laidMetH Tryd.prog laidL w) (fun _ _ _ hh h => h.of_heap hh) own started noInit hfn
    (ChangeSpec.witness_shaped (enc := enc) (C := Tryd.checked) (os := os) (X := fun w _ => laidMetH Tryd.prog laidL w) false (World.doorLaid Tryd.prog 400 os) args0 8 rfl h1 h2 h3 h4 (door_met os _)) ?_
  intro W base args ds gs before hval hW _ hwt hL _
  have hW' := hW
  obtain ⟨p, q, hA, hV, _, _, _⟩ := hW
  rw [hvars] at hV
  obtain rfl : gs = [] := by
    cases gs with
    | nil => rfl
    | cons _ _ => exact hV.elim
  have hlen : ds.length = fn.params.toList.length := by
    have : ∀ {ts : List TypeId} {vs : List Value} {ds : List (DataW H)} {ps : List MemPlace}, DataW.TrodAll enc Tryd.prog W 0 (fun _ => true) true ts vs ds ps → ds.length = ts.length := by
      intro ts
      induction ts with
      | nil => intro vs ds ps h; cases vs <;> cases ds <;> first | rfl | exact h.elim
      | cons t ts ih => intro vs ds ps h; cases vs <;> cases ds <;> first | exact h.elim | (obtain ⟨p, q, _, h, _⟩ := h; simp [ih h])
    exact this hA
  rw [List.append_nil, weightsEach_more hlen] at hwt
  obtain ⟨vs, pre, rfl, hpre, hret⟩ := hc W base args ds p (vars_of_laid hL) hval hA hwt
  refine (hret W (Mv.of W) (Mv.le.refl _) hpre).mono ?_
  rintro e w' ⟨v, rfl, hb, _, _, _, rfl⟩
  exact ⟨_, rfl, post_true laidOut hvars hW' (hs H _ (by simpa using hlen)|>.trans (by simp)) hr hres hu hb⟩
end Go.Proofs.YtkhcfbdjmpodbaaDoor
