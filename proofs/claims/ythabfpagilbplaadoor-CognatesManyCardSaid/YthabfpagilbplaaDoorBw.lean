/- The frame: a law that answers true and else only makes memory of its own is as its statement says. -/
import Derived.Test.YthabfpagilbplaaDoorBb
import Derived.Test.YthabfpagilbplaaDoorRows
import Derived.ProofKit
import Derived.LaidMore
import Derived.OpenShut
import Derived.Stop.Joined
import Derived.Lib.SmallJoins
import Derived.ChangeSlices
import Derived.Test.YthabfpagilbplaaDoorBa
import Derived.Test.YthabfpagilbplaaDoorBc
import Derived.Deep.Slices
set_option linter.unusedSimpArgs false
set_option linter.unusedVariables false
/- The frame: a law that answers true and else only makes memory of its own is as its statement says. -/
namespace Go.Proofs.YthabfpagilbplaaDoor
open Go Go.Sy Go.ChangeShapes Go.WideShapes Go.ChangeAt Go.WideElems Go.RowKit
section
variable {H : Type} {enc : TypeId × Value → H} {P : Program}
def readable (P : Program) (ts : List TypeId) : Bool := ts.all fun t => P.readableRec t && decide (t < P.types.size)
theorem trodAll_below (hl : laidOutB P = true) {W W' : World} (hb : Below W.heap.size W W') : ∀ {ts : List TypeId} {vs : List Value} {ds : List (DataW H)} {ps : List MemPlace}, readable P ts = true → (∀ x ∈ ps, x.block < W.heap.size) →
    DataW.TrodAll enc P W 0 (fun _ => true) true ts vs ds ps → DataW.TrodAll enc P W' 0 (fun b => decide (b < W.heap.size)) true ts vs ds ps
  | [], [], [], _, _, _, h => h
  | [], _ :: _, _, _, _, _, h => h.elim
  | [], [], _ :: _, _, _, _, h => h.elim
  | _ :: _, [], _, _, _, _, h => h.elim
  | _ :: _, _ :: _, [], _, _, _, h => h.elim
  | t :: ts, v :: vs, d :: ds, ps, hr, hlt, ⟨p, q, h1, h2, e⟩ => by
    unfold readable at hr
    simp only [List.all_cons, Bool.and_eq_true, decide_eq_true_eq] at hr
    exact ⟨p, q, Below.trod hl hr.1.1 hr.1.2 h1 hb (fun x hx => hlt x (by rw [e]; simp [hx])), trodAll_below hl hb hr.2 (fun x hx => hlt x (by rw [e]; simp [hx])) h2, e⟩
theorem post_true {f : Func} {s : ChangeSpec} {fresh handsOn apart : Bool} {W W' : World} {args : Array Value} {ds gs : List (DataW H)} {before : List MemPlace} {tb : TypeId} (hl : laidOutB P = true) (hvars : s.vars = [])
    (hW : DataW.Whole enc P f.params.toList s.vars apart W args.toList ds gs before) (hfn : s.fn H (ds ++ gs) = { results := [.lit (.bool true)], args := ds }) (hr : readable P f.params.toList = true)
    (hres : f.resultTypes = #[tb]) (hu : P.underlying tb = some .bool) (hb : Below W.heap.size W W') : s.post enc P f apart fresh handsOn false W args (.bool true) W' := by
  have hlt : ∀ p ∈ before, p.block < W.heap.size := fun p hp => hW.lt p hp
  have hW' := hW
  obtain ⟨p, q, hA, hV, e, _, _⟩ := hW
  rw [hvars] at hV
  obtain ⟨rfl, rfl⟩ : gs = [] ∧ q = [] := by
    cases gs with
    | nil => exact ⟨rfl, hV⟩
    | cons _ _ => exact hV.elim
  refine ⟨ds, [], before, [], p, [], hW', ?_, ?_, ?_, World.keptBut_mono (fun x hx => ⟨hx, .inr (.inl (by rw [e] at hx; simpa using hx))⟩) (hb.frame (· ∈ before)), fun h => by cases h⟩
  · rw [hfn, hres]
    exact trodAll_mk1 (shut_bool hu _)
  · rw [hfn]
    exact trodAll_below hl hb hr (fun x hx => hlt x (by rw [e]; simp [hx])) hA
  · rw [hvars, hfn]
    exact rfl
end
theorem own : ownKnob Tryd.prog.godebug = none := by kernel_rfl
theorem laidOut : laidOutB Tryd.prog = true := by kernel_rfl
theorem gTab : Tryd.prog.globalNamed "math/bits.deBruijn32tab" = some g_math_bits_deBruijn32tab := by kernel_rfl
theorem tTab : (Tryd.prog.globals[g_math_bits_deBruijn32tab]?).map (·.type) = some tg_math_bits_deBruijn32tab := by kernel_rfl
def laidL : List (String × DataW Unit) := [("math/bits.deBruijn32tab", Rows.laid_math_bits_deBruijn32tab)]
theorem laid_plain : (laidL.all fun x => x.2.handleName?.isNone) = true := by kernel_rfl
noncomputable def tabElem : TypeId := match Tryd.prog.underlying tg_math_bits_deBruijn32tab with | some (.array _ e) => e | _ => 0
theorem tab_under : ∃ e, Tryd.prog.underlying tg_math_bits_deBruijn32tab = some (.array 32 e) ∧ Tryd.prog.underlying e = some (.int .u8) ∧ Tryd.prog.cellsOf e = 1 ∧ Tryd.prog.cellsOf tg_math_bits_deBruijn32tab = 32 := ⟨tabElem, by kernel_rfl, by kernel_rfl, by kernel_rfl, by kernel_rfl⟩
theorem lit_inj {H : Type} {k : IntKind} {x y : Int} (h : (DataW.lit (.int k x) : DataW H) = .lit (.int k y)) : x = y := by injection h with h; injection h
set_option maxRecDepth 100000 in
theorem tab_of_laid {W : World} (h : laidMetH Tryd.prog laidL W) : TabOk (Mv.of W) := by
  rw [MakeChecks.laidMetH_plain _ _ _ laid_plain] at h
  obtain ⟨ps, ⟨g0, t0, cs0, f0, p0, q0, hg0, ht0, hv0, hd0, _⟩, _⟩ := h
  obtain rfl := Option.some.inj (gTab.symm.trans hg0)
  obtain rfl := Option.some.inj (tTab.symm.trans ht0)
  obtain ⟨e, hu, hue, ce, ct⟩ := tab_under
  obtain ⟨xs, m, _, hx, hlen, hn, hel⟩ := DataW.trod_array hu hd0
  intro j hj
  show W.cell? ⟨_, j, none⟩ = _
  rw [World.var?_cell hg0 hv0 j]
  have h1 := hel j hj
  rw [ce, Nat.mul_one] at h1
  obtain ⟨y, hy⟩ : ∃ y, xs[j]? = some y := ⟨_, List.getElem?_eq_getElem (by omega)⟩
  rw [hy] at h1
  obtain ⟨k, e1, e2, _⟩ := DataW.trod_int hue h1
  have e3 : cs0[j]? = some (.int .u8 k) := by
    have := congrArg (fun l : List Value => l[0]?) e1
    simp only [List.getElem?_take, List.getElem?_drop, Nat.add_zero] at this
    simpa using this
  rw [e3]
  simp only [Prod.mk.injEq] at hx
  have h2 : (DataW.agg (xs.map (·.1)) : DataW Unit) = Rows.laid_math_bits_deBruijn32tab := hx.1.symm
  unfold Rows.laid_math_bits_deBruijn32tab at h2
  injection h2 with h2
  have h3 : (xs.map (·.1))[j]? = some (.lit (.int .u8 k)) := by rw [List.getElem?_map, hy, e2]; rfl
  rw [h2] at h3
  have h4 : ∀ j, j < 32 → ([.lit (.int .u8 0), .lit (.int .u8 1), .lit (.int .u8 28), .lit (.int .u8 2), .lit (.int .u8 29), .lit (.int .u8 14), .lit (.int .u8 24), .lit (.int .u8 3), .lit (.int .u8 30), .lit (.int .u8 22), .lit (.int .u8 20), .lit (.int .u8 15), .lit (.int .u8 25), .lit (.int .u8 17), .lit (.int .u8 4), .lit (.int .u8 8), .lit (.int .u8 31), .lit (.int .u8 27), .lit (.int .u8 13), .lit (.int .u8 23), .lit (.int .u8 21), .lit (.int .u8 19), .lit (.int .u8 16), .lit (.int .u8 7), .lit (.int .u8 26), .lit (.int .u8 12), .lit (.int .u8 18), .lit (.int .u8 6), .lit (.int .u8 11), .lit (.int .u8 5), .lit (.int .u8 10), .lit (.int .u8 9)] : List (DataW Unit))[j]? = some (.lit (.int .u8 (tab.getD j 0))) := by
    intro j hj
    match j, hj with
    | 0, _ | 1, _ | 2, _ | 3, _ | 4, _ | 5, _ | 6, _ | 7, _ | 8, _ | 9, _ | 10, _ | 11, _ | 12, _ | 13, _ | 14, _ | 15, _ | 16, _ | 17, _ | 18, _ | 19, _ | 20, _ | 21, _ | 22, _ | 23, _ | 24, _ | 25, _ | 26, _ | 27, _ | 28, _ | 29, _ | 30, _ | 31, _ => rfl
    | n + 32, h => omega
  rw [h4 j hj] at h3
  rw [lit_inj (Option.some.inj h3)]
theorem door_met (os : Os) (args : Array Value) : laidMetH Tryd.prog laidL ((World.doorLaid Tryd.prog 400 os).forCall (fun _ _ => 0) ⟨#[], args, []⟩).memory :=
  laidMetH_of_parts3 (fuel := 8) (laidMet_of_run' 8 (by kernel_rfl) (by kernel_rfl)) (by kernel_rfl) (by kernel_rfl)
set_option maxRecDepth 100000 in
theorem law_lifted {f : FuncId} {fn : Func} {s : ChangeSpec} {tb : TypeId} (args0 : Array Value) (noInit : Tryd.prog.inits.idxOf? f = none) (hfn : Tryd.prog.funcs[f]? = some fn) (hvars : s.vars = [])
    (hr : readable Tryd.prog fn.params.toList = true) (hres : fn.resultTypes = #[tb]) (hu : Tryd.prog.underlying tb = some .bool)
    (hs : ∀ (H : Type) (ds : List (DataW H)), ds.length = fn.params.toList.length → s.fn H ds = { results := [.lit (.bool true)], args := ds })
    (os : Os) (started : os.Started) (H : Type) (enc : TypeId × Value → H)
    (h1 : ((World.doorLaid Tryd.prog 400 os).forCall (fun _ _ => 0) ⟨#[], args0, []⟩).Shaped Tryd.prog)
    (h2 : Input.okWideB Tryd.prog ((World.doorLaid Tryd.prog 400 os).forCall (fun _ _ => 0) ⟨#[], args0, []⟩) f ⟨#[], args0, []⟩ = true)
    (h3 : s.preB enc Tryd.prog fn [] false ((World.doorLaid Tryd.prog 400 os).forCall (fun _ _ => 0) ⟨#[], args0, []⟩).memory args0 8 = true)
    (h4 : s.sizedB enc Tryd.prog fn false ((World.doorLaid Tryd.prog 400 os).forCall (fun _ _ => 0) ⟨#[], args0, []⟩).memory args0 8 = true)
    (hc : ∀ (W : World) (base : Nat) (args : Array Value) (ds : List (DataW H)) (p : List MemPlace), TabOk (Mv.of W) → (∀ (j : Nat) t v, fn.params[j]? = some t → args[j]? = some v → Value.okWide Tryd.prog W .any base t v) →
      DataW.TrodAll enc Tryd.prog W 0 (fun _ => true) true fn.params.toList args.toList ds p → ∃ (vs : List Value) (pre : Mv → Prop), args = vs.toArray ∧ pre (Mv.of W) ∧ RetP Tryd.prog f vs pre (.bool true)) :
    ReturnsInHanded {} Tryd.checked os f .any (fun w args => (s.pre enc Tryd.prog fn [] false w args ∧ laidMetH Tryd.prog laidL w) ∧ sizedMet enc Tryd.prog fn (OpenSpec.ofChange s) false w args) (s.post enc Tryd.prog fn false true false false) := by
  refine returnsInHanded_of_change_and (C := Tryd.checked) (X := fun w _ => laidMetH Tryd.prog laidL w) (fun _ _ _ hh h => h.of_heap hh) own started noInit hfn
    (ChangeSpec.witness_shaped (enc := enc) (C := Tryd.checked) (os := os) (X := fun w _ => laidMetH Tryd.prog laidL w) false (World.doorLaid Tryd.prog 400 os) args0 8 rfl h1 h2 h3 h4 (door_met os _)) ?_
  intro W base args ds gs before hval hW _ _ hL _
  have hW' := hW
  obtain ⟨p, q, hA, hV, _, _, _⟩ := hW
  rw [hvars] at hV
  obtain rfl : gs = [] := by
    cases gs with
    | nil => rfl
    | cons _ _ => exact hV.elim
  have hlen : ds.length = fn.params.toList.length := by
    have : ∀ {ts : List TypeId} {vs : List Value} {ds : List (DataW H)} {ps : List MemPlace}, DataW.TrodAll enc Tryd.prog W 0 (fun _ => true) true ts vs ds ps → ds.length = ts.length := by
      intro ts
      induction ts with
      | nil => intro vs ds ps h; cases vs <;> cases ds <;> first | rfl | exact h.elim
      | cons t ts ih => intro vs ds ps h; cases vs <;> cases ds <;> first | exact h.elim | (obtain ⟨p, q, _, h, _⟩ := h; simp [ih h])
    exact this hA
  obtain ⟨vs, pre, rfl, hpre, hret⟩ := hc W base args ds p (tab_of_laid hL) hval hA
  refine (hret W (Mv.of W) (Mv.le.refl _) hpre).mono ?_
  rintro e w' ⟨v, rfl, hb, _, _, _, rfl⟩
  exact ⟨_, rfl, post_true laidOut hvars hW' (hs H _ (by simpa using hlen)|>.trans (by simp)) hr hres hu hb⟩
end Go.Proofs.YthabfpagilbplaaDoor
/- What a law's arguments are, out of what they read as. -/
namespace Go.Proofs.YthabfpagilbplaaDoor
open Go Go.Sy Go.ChangeShapes Go.WideShapes Go.ChangeAt Go.WideElems Go.RowKit Go.Joins Go.Deep
section
variable {H : Type} {enc : TypeId × Value → H} {P : Program} {w : World} {base : Nat} {spare : Nat → Bool} {held : Bool}
end
end Go.Proofs.YthabfpagilbplaaDoor
/- What a law's arguments are: slices of anything, words, lists of words, pairs. -/
namespace Go.Proofs.YthabfpagilbplaaDoor
open Go Go.Sy Go.ChangeShapes Go.WideShapes Go.ChangeAt Go.WideElems Go.RowKit Go.Joins Go.Deep
section
variable {H : Type} {enc : TypeId × Value → H} {P : Program} {w : World} {base : Nat} {spare : Nat → Bool} {held : Bool}
structure SL (α : Type) where
  p : Option Addr
  cap : Nat
  l : List α
/-! Elements. -/
instance {α : Type} : Inhabited (SL α) := ⟨⟨none, 0, []⟩⟩
end
end Go.Proofs.YthabfpagilbplaaDoor
/- A pair of words with costs, as an argument. -/
namespace Go.Proofs.YthabfpagilbplaaDoor
open Go Go.Sy Go.ChangeShapes Go.WideShapes Go.ChangeAt Go.WideElems Go.RowKit Go.Joins Go.Deep
section
variable {H : Type} {enc : TypeId × Value → H} {P : Program} {w : World} {base : Nat} {spare : Nat → Bool} {held : Bool}
structure CS where
  p : Option Addr
  cap : Nat
  l : List Int
  gap : Int
end
end Go.Proofs.YthabfpagilbplaaDoor
