/- Trees and words: the program's variables, as they are laid. -/
import Derived.Test.YtkhcfbdjmpodbaaDoorBp
import Derived.Test.YtkhcfbdjmpodbaaDoorRows
import Derived.LaidHandle
import Derived.LaidSub
import Derived.RowKitVeiled
import Derived.ProofKit
import Derived.LaidMore
import Derived.OpenShut
import Derived.ChangeArms
import Derived.Stop.Joined
import Derived.Lib.SmallJoins
import Derived.ChangeSlices
import Derived.Test.YtkhcfbdjmpodbaaDoorBa
import Derived.Test.YtkhcfbdjmpodbaaDoorBc
import Derived.Deep.Slices
set_option linter.unusedSimpArgs false
set_option linter.unusedVariables false
/- Trees and words: the program's variables, as they are laid. -/
namespace Go.Proofs.YtkhcfbdjmpodbaaDoor
open Go Go.Sy Go.ChangeShapes Go.WideShapes Go.ChangeAt Go.WideElems Go.RowKit
def VarsK (R : Mv) : Prop := TabOk R ∧ StepsOk R
theorem VarsK.mono {R S : Mv} (h : VarsK R) (hle : R.le S) : VarsK S := ⟨h.1.mono hle, h.2.mono hle⟩
def laidL : List (String × DataW Unit) := [("math/bits.deBruijn32tab", Rows.laid_math_bits_deBruijn32tab), ("ablaut/multi.steps", Rows.laid_ablaut_multi_steps)]
theorem laid_first : (laidL.filter fun x => x.2.handleName?.isNone) = [("math/bits.deBruijn32tab", Rows.laid_math_bits_deBruijn32tab)] := rfl
theorem gTab : Tryd.prog.globalNamed "math/bits.deBruijn32tab" = some g_math_bits_deBruijn32tab := by kernel_rfl
theorem tTab : (Tryd.prog.globals[g_math_bits_deBruijn32tab]?).map (·.type) = some tg_math_bits_deBruijn32tab := by kernel_rfl
noncomputable def tabElem : TypeId := match Tryd.prog.underlying tg_math_bits_deBruijn32tab with | some (.array _ e) => e | _ => 0
theorem tab_under : ∃ e, Tryd.prog.underlying tg_math_bits_deBruijn32tab = some (.array 32 e) ∧ Tryd.prog.underlying e = some (.int .u8) ∧ Tryd.prog.cellsOf e = 1 ∧ Tryd.prog.cellsOf tg_math_bits_deBruijn32tab = 32 := ⟨tabElem, by kernel_rfl, by kernel_rfl, by kernel_rfl, by kernel_rfl⟩
theorem lit_inj {H : Type} {k : IntKind} {x y : Int} (h : (DataW.lit (.int k x) : DataW H) = .lit (.int k y)) : x = y := by injection h with h; injection h
set_option maxRecDepth 100000 in
theorem tab_of_laid {W : World} (h : laidMetH Tryd.prog laidL W) : TabOk (Mv.of W) := by
  have h := (laidMetH_iff.1 h).1
  rw [laid_first] at h
  obtain ⟨ps, ⟨g0, t0, cs0, f0, p0, q0, hg0, ht0, hv0, hd0, _⟩, _⟩ := h
  obtain rfl := Option.some.inj (gTab.symm.trans hg0)
  obtain rfl := Option.some.inj (tTab.symm.trans ht0)
  obtain ⟨e, hu, hue, ce, ct⟩ := tab_under
  obtain ⟨xs, m, _, hx, hlen, hn, hel⟩ := DataW.trod_array hu hd0
  intro j hj
  show W.cell? ⟨_, j, none⟩ = _
  rw [World.var?_cell hg0 hv0 j]
  have h1 := hel j hj
  rw [ce, Nat.mul_one] at h1
  obtain ⟨y, hy⟩ : ∃ y, xs[j]? = some y := ⟨_, List.getElem?_eq_getElem (by omega)⟩
  rw [hy] at h1
  obtain ⟨k, e1, e2, _⟩ := DataW.trod_int hue h1
  have e3 : cs0[j]? = some (.int .u8 k) := by
    have := congrArg (fun l : List Value => l[0]?) e1
    simp only [List.getElem?_take, List.getElem?_drop, Nat.add_zero] at this
    simpa using this
  rw [e3]
  simp only [Prod.mk.injEq] at hx
  have h2 : (DataW.agg (xs.map (·.1)) : DataW Unit) = Rows.laid_math_bits_deBruijn32tab := hx.1.symm
  unfold Rows.laid_math_bits_deBruijn32tab at h2
  injection h2 with h2
  have h3 : (xs.map (·.1))[j]? = some (.lit (.int .u8 k)) := by rw [List.getElem?_map, hy, e2]; rfl
  rw [h2] at h3
  have h4 : ∀ j, j < 32 → ([.lit (.int .u8 0), .lit (.int .u8 1), .lit (.int .u8 28), .lit (.int .u8 2), .lit (.int .u8 29), .lit (.int .u8 14), .lit (.int .u8 24), .lit (.int .u8 3), .lit (.int .u8 30), .lit (.int .u8 22), .lit (.int .u8 20), .lit (.int .u8 15), .lit (.int .u8 25), .lit (.int .u8 17), .lit (.int .u8 4), .lit (.int .u8 8), .lit (.int .u8 31), .lit (.int .u8 27), .lit (.int .u8 13), .lit (.int .u8 23), .lit (.int .u8 21), .lit (.int .u8 19), .lit (.int .u8 16), .lit (.int .u8 7), .lit (.int .u8 26), .lit (.int .u8 12), .lit (.int .u8 18), .lit (.int .u8 6), .lit (.int .u8 11), .lit (.int .u8 5), .lit (.int .u8 10), .lit (.int .u8 9)] : List (DataW Unit))[j]? = some (.lit (.int .u8 (tab.getD j 0))) := by
    intro j hj
    match j, hj with
    | 0, _ | 1, _ | 2, _ | 3, _ | 4, _ | 5, _ | 6, _ | 7, _ | 8, _ | 9, _ | 10, _ | 11, _ | 12, _ | 13, _ | 14, _ | 15, _ | 16, _ | 17, _ | 18, _ | 19, _ | 20, _ | 21, _ | 22, _ | 23, _ | 24, _ | 25, _ | 26, _ | 27, _ | 28, _ | 29, _ | 30, _ | 31, _ => rfl
    | n + 32, h => omega
  rw [h4 j hj] at h3
  rw [lit_inj (Option.some.inj h3)]
set_option maxRecDepth 100000 in
theorem step_cells {W : World} {m : Nat} {t : TypeId} {f0 f1 f2 : Field} {ps rs : Array TypeId} {va : Bool} {cs : List Value} {y : DataW (List UInt8) × List MemPlace} {u v : Int} {c : UInt8} {nm : List UInt8} {f : FuncId}
    (he : Tryd.prog.underlying t = some (.struct #[f0, f1, f2])) (o0 : f0.offset = 0) (o1 : f1.offset = 1) (o2 : f2.offset = 2) (c0 : Tryd.prog.cellsOf f0.type = 1) (c1 : Tryd.prog.cellsOf f1.type = 1) (c2 : Tryd.prog.cellsOf f2.type = 1)
    (h0 : Tryd.prog.underlying f0.type = some (.int .i64)) (h1 : Tryd.prog.underlying f1.type = some (.int .i64)) (h2 : Tryd.prog.underlying f2.type = some (.func ps rs va))
    (hn : ((List.range Tryd.prog.funcs.size).filter fun f => (Tryd.prog.funcs[f]?).any (·.name.toUTF8.data.toList == c :: nm)) = [f])
    (hl : cs.length = 3) (h : DataW.trod (funcToken Tryd.prog) Tryd.prog W 0 (fun _ => true) true m t cs = some y) (hy : y.1 = .agg [.lit (.int .i64 u), .lit (.int .i64 v), .held (c :: nm)]) : cs = [.int .i64 u, .int .i64 v, .func (.func f) #[] #[]] := by
  obtain ⟨xs, k, _, hx, _, hxl, hf⟩ := DataW.trod_struct he h
  match cs, hl with
  | [v0, v1, v2], _ =>
    have q0 := hf 0 f0 rfl
    have q1 := hf 1 f1 rfl
    have q2 := hf 2 f2 rfl
    rw [o0, c0] at q0
    rw [o1, c1] at q1
    rw [o2, c2] at q2
    match xs, hxl with
    | [x0, x1, x2], _ =>
      obtain ⟨a, e0, z0, _⟩ := DataW.trod_int h0 q0
      obtain ⟨b, e1, z1, _⟩ := DataW.trod_int h1 q1
      rw [hx] at hy
      simp only [List.map_cons, List.map_nil, DataW.agg.injEq, List.cons.injEq, and_true] at hy
      obtain ⟨y0, y1, y2⟩ := hy
      have w0 : x0 = (.lit (.int .i64 a), []) := z0
      have w1 : x1 = (.lit (.int .i64 b), []) := z1
      rw [w0] at y0
      rw [w1] at y1
      obtain rfl : a = u := lit_inj y0
      obtain rfl : b = v := lit_inj y1
      have x2e : x2 = (.held (c :: nm), x2.2) := Prod.ext y2 rfl
      have q2' : DataW.trod (funcToken Tryd.prog) Tryd.prog W 0 (fun _ => true) true k f2.type [v2] = some (.held (c :: nm), x2.2) := by rw [← x2e]; exact q2
      have z2 := Go.func_of_trod h2 hn q2'
      simp only [List.drop_zero, List.take_succ_cons, List.take_zero, List.cons.injEq, and_true, List.drop_succ_cons] at e0 e1
      rw [e0, e1, z2]
set_option maxRecDepth 100000 in
theorem steps_of_laid {W : World} (h : laidMetH Tryd.prog laidL W) : StepsOk (Mv.of W) := by
  have hE := laidMetH.funcs h (show ("ablaut/multi.steps", _) ∈ laidL from List.mem_cons_of_mem _ (List.mem_cons_self ..))
  obtain ⟨g', t', cs, fuel, p, hg', ht', hv, hr⟩ := hE
  obtain rfl := Option.some.inj ((show Tryd.prog.globalNamed "ablaut/multi.steps" = some g_multi_steps by kernel_rfl).symm.trans hg')
  obtain rfl := Option.some.inj ((show (Tryd.prog.globals[g_multi_steps]?).map (·.type) = some 115 by kernel_rfl).symm.trans ht')
  obtain ⟨xs, m, _, hx, hl, hxl, hel⟩ := DataW.trod_array Tryd.underlying115 hr
  have hc9 : cs.toList.length = 9 := hl.trans (by kernel_rfl)
  have c3 : Tryd.prog.cellsOf 110 = 3 := by kernel_rfl
  have hel := fun i (hi : i < 3) => hel i hi
  rw [c3] at hel
  have hcl : ∀ i, i < 3 → ((cs.toList.drop (i * 3)).take 3).length = 3 := fun i hi => by rw [List.length_take, List.length_drop, hc9]; omega
  match xs, hxl with
  | [y0, y1, y2], _ =>
    simp only [List.map_cons, List.map_nil, Prod.mk.injEq] at hx
    have hx1 := hx.1
    have hd : (DataW.funcsOut (.agg [.agg [.lit (.int .i64 1), .lit (.int .i64 1), .iface "func" (.lit (.string [97, 98, 108, 97, 117, 116, 47, 109, 117, 108, 116, 105, 46, 115, 116, 101, 112, 115, 36, 49]))], .agg [.lit (.int .i64 1), .lit (.int .i64 0), .iface "func" (.lit (.string [97, 98, 108, 97, 117, 116, 47, 109, 117, 108, 116, 105, 46, 115, 116, 101, 112, 115, 36, 50]))], .agg [.lit (.int .i64 0), .lit (.int .i64 1), .iface "func" (.lit (.string [97, 98, 108, 97, 117, 116, 47, 109, 117, 108, 116, 105, 46, 115, 116, 101, 112, 115, 36, 51]))]]) : DataW (List UInt8)) = .agg [.agg [.lit (.int .i64 1), .lit (.int .i64 1), .held [97, 98, 108, 97, 117, 116, 47, 109, 117, 108, 116, 105, 46, 115, 116, 101, 112, 115, 36, 49]], .agg [.lit (.int .i64 1), .lit (.int .i64 0), .held [97, 98, 108, 97, 117, 116, 47, 109, 117, 108, 116, 105, 46, 115, 116, 101, 112, 115, 36, 50]], .agg [.lit (.int .i64 0), .lit (.int .i64 1), .held [97, 98, 108, 97, 117, 116, 47, 109, 117, 108, 116, 105, 46, 115, 116, 101, 112, 115, 36, 51]]] := rfl
    have hx2 := hd.symm.trans hx1
    simp only [DataW.agg.injEq, List.cons.injEq, and_true] at hx2
    obtain ⟨z0, z1, z2⟩ := hx2
    have r0 := step_cells (f := n_multi_steps_1) Tryd.underlying110 rfl rfl rfl (by kernel_rfl) (by kernel_rfl) (by kernel_rfl) Tryd.underlying3 Tryd.underlying3 Tryd.underlying108 (by kernel_rfl) (hcl 0 (by decide)) (hel 0 (by decide)) z0.symm
    have r1 := step_cells (f := n_multi_steps_2) Tryd.underlying110 rfl rfl rfl (by kernel_rfl) (by kernel_rfl) (by kernel_rfl) Tryd.underlying3 Tryd.underlying3 Tryd.underlying108 (by kernel_rfl) (hcl 1 (by decide)) (hel 1 (by decide)) z1.symm
    have r2 := step_cells (f := n_multi_steps_3) Tryd.underlying110 rfl rfl rfl (by kernel_rfl) (by kernel_rfl) (by kernel_rfl) Tryd.underlying3 Tryd.underlying3 Tryd.underlying108 (by kernel_rfl) (hcl 2 (by decide)) (hel 2 (by decide)) z2.symm
    have hall : cs.toList = stepsV := by
      have e : cs.toList = (cs.toList.drop (0 * 3)).take 3 ++ ((cs.toList.drop (1 * 3)).take 3 ++ (cs.toList.drop (2 * 3)).take 3) := by
        refine List.ext_getElem? fun i => ?_
        rcases Nat.lt_or_ge i 3 with h | h
        · rw [List.getElem?_append_left (by rw [hcl 0 (by decide)]; exact h), List.getElem?_take, if_pos h, List.getElem?_drop]; congr 1; omega
        · rw [List.getElem?_append_right (by rw [hcl 0 (by decide)]; exact h), hcl 0 (by decide)]
          rcases Nat.lt_or_ge i 6 with h6 | h6
          · rw [List.getElem?_append_left (by rw [hcl 1 (by decide)]; omega), List.getElem?_take, if_pos (by omega), List.getElem?_drop]; congr 1; omega
          · rw [List.getElem?_append_right (by rw [hcl 1 (by decide)]; omega), hcl 1 (by decide)]
            rcases Nat.lt_or_ge i 9 with h9 | h9
            · rw [List.getElem?_take, if_pos (by omega), List.getElem?_drop]; congr 1; omega
            · rw [List.getElem?_eq_none (by omega), List.getElem?_eq_none (by rw [hcl 2 (by decide)]; omega)]
      rw [e, r0, r1, r2]; rfl
    intro j v hj
    show W.cell? ⟨_, j, none⟩ = _
    rw [World.var?_cell hg' hv j, ← hj, ← hall]
    simp
theorem vars_of_laid {W : World} (h : laidMetH Tryd.prog laidL W) : VarsK (Mv.of W) := ⟨tab_of_laid h, steps_of_laid h⟩
end Go.Proofs.YtkhcfbdjmpodbaaDoor
/- The frame: a law that answers true and else only makes memory of its own is as its statement says. -/
namespace Go.Proofs.YtkhcfbdjmpodbaaDoor
open Go Go.Sy Go.ChangeShapes Go.WideShapes Go.ChangeAt Go.WideElems Go.RowKit
section
variable {H : Type} {enc : TypeId × Value → H} {P : Program}
def readable (P : Program) (ts : List TypeId) : Bool := ts.all fun t => P.readableRec t && decide (t < P.types.size)
theorem trodAll_below (hl : laidOutB P = true) {W W' : World} (hb : Below W.heap.size W W') : ∀ {ts : List TypeId} {vs : List Value} {ds : List (DataW H)} {ps : List MemPlace}, readable P ts = true → (∀ x ∈ ps, x.block < W.heap.size) →
    DataW.TrodAll enc P W 0 (fun _ => true) true ts vs ds ps → DataW.TrodAll enc P W' 0 (fun b => decide (b < W.heap.size)) true ts vs ds ps
  | [], [], [], _, _, _, h => h
  | [], _ :: _, _, _, _, _, h => h.elim
  | [], [], _ :: _, _, _, _, h => h.elim
  | _ :: _, [], _, _, _, _, h => h.elim
  | _ :: _, _ :: _, [], _, _, _, h => h.elim
  | t :: ts, v :: vs, d :: ds, ps, hr, hlt, ⟨p, q, h1, h2, e⟩ => by
    unfold readable at hr
    simp only [List.all_cons, Bool.and_eq_true, decide_eq_true_eq] at hr
    exact ⟨p, q, Below.trod hl hr.1.1 hr.1.2 h1 hb (fun x hx => hlt x (by rw [e]; simp [hx])), trodAll_below hl hb hr.2 (fun x hx => hlt x (by rw [e]; simp [hx])) h2, e⟩
theorem post_true {f : Func} {s : ChangeSpec} {fresh handsOn apart : Bool} {W W' : World} {args : Array Value} {ds gs : List (DataW H)} {before : List MemPlace} {tb : TypeId} (hl : laidOutB P = true) (hvars : s.vars = [])
    (hW : DataW.Whole enc P f.params.toList s.vars apart W args.toList ds gs before) (hfn : s.fn H (ds ++ gs) = { results := [.lit (.bool true)], args := ds }) (hr : readable P f.params.toList = true)
    (hres : f.resultTypes = #[tb]) (hu : P.underlying tb = some .bool) (hb : Below W.heap.size W W') : s.post enc P f apart fresh handsOn false W args (.bool true) W' := by
  have hlt : ∀ p ∈ before, p.block < W.heap.size := fun p hp => hW.lt p hp
  have hW' := hW
  obtain ⟨p, q, hA, hV, e, _, _⟩ := hW
  rw [hvars] at hV
  obtain ⟨rfl, rfl⟩ : gs = [] ∧ q = [] := by
    cases gs with
    | nil => exact ⟨rfl, hV⟩
    | cons _ _ => exact hV.elim
  refine ⟨ds, [], before, [], p, [], hW', ?_, ?_, ?_, World.keptBut_mono (fun x hx => ⟨hx, .inr (.inl (by rw [e] at hx; simpa using hx))⟩) (hb.frame (· ∈ before)), fun h => by cases h⟩
  · rw [hfn, hres]
    exact trodAll_mk1 (shut_bool hu _)
  · rw [hfn]
    exact trodAll_below hl hb hr (fun x hx => hlt x (by rw [e]; simp [hx])) hA
  · rw [hvars, hfn]
    exact rfl
end
theorem own : ownKnob Tryd.prog.godebug = none := by kernel_rfl
theorem laidOut : laidOutB Tryd.prog = true := by kernel_rfl
theorem door_met (os : Os) (args : Array Value) : laidMetH Tryd.prog laidL ((World.doorLaid Tryd.prog 400 os).forCall (fun _ _ => 0) ⟨#[], args, []⟩).memory :=
  laidMetH_of_parts3 (fuel := 8) (laidMet_of_run' 8 (by kernel_rfl) (by kernel_rfl)) (by kernel_rfl) (by kernel_rfl)
end Go.Proofs.YtkhcfbdjmpodbaaDoor
/- What a law's arguments are, out of what they read as. -/
namespace Go.Proofs.YtkhcfbdjmpodbaaDoor
open Go Go.Sy Go.ChangeShapes Go.WideShapes Go.ChangeAt Go.WideElems Go.RowKit Go.Joins Go.Deep
section
variable {H : Type} {enc : TypeId × Value → H} {P : Program} {w : World} {base : Nat} {spare : Nat → Bool} {held : Bool}
theorem nat_of_wf32 {n : Int} (h : (Lit.int .u32 n).wf = true) : ∃ m : Nat, n = (m : Int) ∧ m < 2 ^ 32 := by
  simp only [Lit.wf, Bool.and_eq_true, decide_eq_true_eq] at h
  have h1 := h.1
  have h2 := h.2
  have h1' : (0 : Int) ≤ n := h1
  have h2' : n ≤ 4294967295 := h2
  exact ⟨n.toNat, by omega, by omega⟩
theorem spot_none {w : World} {a : Addr} {v : Value} (h : w.cell? a = some v) : a.spot = none := by
  unfold World.cell? at h
  split at h
  · split at h
    · cases h
    · rename_i hs; simpa using hs
  · cases h
end
end Go.Proofs.YtkhcfbdjmpodbaaDoor
/- What a law's arguments are: slices of anything, words, lists of words, pairs. -/
namespace Go.Proofs.YtkhcfbdjmpodbaaDoor
open Go Go.Sy Go.ChangeShapes Go.WideShapes Go.ChangeAt Go.WideElems Go.RowKit Go.Joins Go.Deep
section
variable {H : Type} {enc : TypeId × Value → H} {P : Program} {w : World} {base : Nat} {spare : Nat → Bool} {held : Bool}
def Reads (enc : TypeId × Value → H) (P : Program) (w : World) (base : Nat) (spare : Nat → Bool) (held : Bool) {α : Type} (e : TypeId) (f : α → List Value) (Q : α → Prop) : Prop :=
  ∀ n cs x, DataW.trod enc P w base spare held n e cs = some x → cs.length = P.cellsOf e → ∃ a : α, cs = f a ∧ Q a
structure SL (α : Type) where
  p : Option Addr
  cap : Nat
  l : List α
def SL.v {α : Type} (s : SL α) : Value := slv s.p s.l.length s.cap
def SL.good {α : Type} (w : World) (f : α → List Value) (Q : α → Prop) (s : SL α) : Prop := Cells (Mv.of w) s.p (s.l.flatMap f) ∧ ((s.p = none → s.cap = 0) ∧ s.l.length ≤ s.cap) ∧ s.l.length ≤ maxLen ∧ ∀ a ∈ s.l, Q a
theorem flatMap_at {α : Type} (f : α → List Value) (k : Nat) (l : List α) (hf : ∀ a ∈ l, (f a).length = k) (i : Nat) (x : Value) (h : (l.flatMap f)[i]? = some x) : ∃ (j : Nat) (a : α), l[j]? = some a ∧ i = j * k + (i - j * k) ∧ i - j * k < k ∧ (f a)[i - j * k]? = some x := by
  induction l generalizing i with
  | nil => simp at h
  | cons a l ih =>
    have ha := hf a (by simp)
    rw [List.flatMap_cons] at h
    rcases Nat.lt_or_ge i k with hi | hi
    · rw [List.getElem?_append_left (by omega)] at h
      exact ⟨0, a, rfl, by omega, by omega, by simpa using h⟩
    · rw [List.getElem?_append_right (by omega), ha] at h
      obtain ⟨j, b, h1, h2, h3, h4⟩ := ih (fun b hb => hf b (by simp [hb])) (i - k) h
      have e : i - (j + 1) * k = i - k - j * k := by rw [Nat.add_mul]; omega
      refine ⟨j + 1, b, by simpa using h1, ?_, by rw [e]; exact h3, by rw [e]; exact h4⟩
      rw [e, Nat.add_mul]; omega
/-! Elements. -/
theorem reads_snd {e : TypeId} {f0 f1 : Field} (he : P.underlying e = some (.struct #[f0, f1])) (hC : P.cellsOf e = 2) (o0 : f0.offset = 0) (o1 : f1.offset = 1) (c0 : P.cellsOf f0.type = 1) (c1 : P.cellsOf f1.type = 1) (h0 : P.underlying f0.type = some (.int .u32)) (h1 : P.underlying f1.type = some (.int .u32)) :
    Reads enc P w base spare held e scell Sok := fun n cs x h hl => by
  obtain ⟨xs, k, _, _, _, hxl, hf⟩ := DataW.trod_struct he h
  rw [hC] at hl
  match cs, hl with
  | [v0, v1], _ =>
    have q0 := hf 0 f0 rfl
    have q1 := hf 1 f1 rfl
    rw [o0, c0] at q0
    rw [o1, c1] at q1
    match xs, hxl with
    | [x0, x1], _ =>
      obtain ⟨a, e0, _, w0⟩ := DataW.trod_int h0 q0
      obtain ⟨b, e1, _, w1⟩ := DataW.trod_int h1 q1
      obtain ⟨a', rfl, ha⟩ := nat_of_wf32 w0
      obtain ⟨b', rfl, hb⟩ := nat_of_wf32 w1
      simp at e0 e1
      subst e0; subst e1
      exact ⟨(a', b'), rfl, ha, hb⟩
theorem reads_int {e : TypeId} {k : IntKind} (h0 : P.underlying e = some (.int k)) : Reads enc P w base spare held e (fun x : Int => [.int k x]) (fun x => (Lit.int k x).wf = true) := fun n cs x h _ => by
  obtain ⟨a, e0, _, w0⟩ := DataW.trod_int h0 h
  exact ⟨a, e0, w0⟩
instance {α : Type} : Inhabited (SL α) := ⟨⟨none, 0, []⟩⟩
end
end Go.Proofs.YtkhcfbdjmpodbaaDoor
