/- Chapters 18 and 30: the program's variables, as they are laid. -/
import Derived.Test.YtpbbnmjkbfbelabDoorBd
import Derived.Test.YtpbbnmjkbfbelabDoorBp
import Derived.Test.YtpbbnmjkbfbelabDoorRows
import Derived.LaidHandle
import Derived.LaidSub
import Derived.RowKitVeiled
import Derived.ProofKit
import Derived.LaidMore
import Derived.OpenShut
import Derived.ChangeArms
set_option linter.unusedSimpArgs false
set_option linter.unusedVariables false
namespace Go.Proofs.YtpbbnmjkbfbelabDoor
open Go Go.Sy Go.ChangeShapes Go.WideShapes Go.ChangeAt Go.WideElems Go.RowKit
def VarsAll (R : Mv) : Prop := TabOk R ∧ StepsOk R ∧ VarsOk R
theorem VarsAll.mono {R S : Mv} (h : VarsAll R) (hle : R.le S) : VarsAll S := ⟨h.1.mono hle, h.2.1.mono hle, h.2.2.mono hle⟩
def laidL : List (String × DataW Unit) := [("math/bits.deBruijn32tab", Rows.laid_math_bits_deBruijn32tab), ("ablaut/multi.steps", Rows.laid_ablaut_multi_steps), ("ablaut/analogy.ending", Rows.laid_ablaut_analogy_ending), ("ablaut/analogy.beginning", Rows.laid_ablaut_analogy_beginning)]
theorem laid_first : (laidL.filter fun x => x.2.handleName?.isNone) = [("math/bits.deBruijn32tab", Rows.laid_math_bits_deBruijn32tab)] := rfl
theorem gTab : Tryd.prog.globalNamed "math/bits.deBruijn32tab" = some g_math_bits_deBruijn32tab := by kernel_rfl
theorem tTab : (Tryd.prog.globals[g_math_bits_deBruijn32tab]?).map (·.type) = some tg_math_bits_deBruijn32tab := by kernel_rfl
noncomputable def tabElem : TypeId := match Tryd.prog.underlying tg_math_bits_deBruijn32tab with | some (.array _ e) => e | _ => 0
theorem tab_under : ∃ e, Tryd.prog.underlying tg_math_bits_deBruijn32tab = some (.array 32 e) ∧ Tryd.prog.underlying e = some (.int .u8) ∧ Tryd.prog.cellsOf e = 1 ∧ Tryd.prog.cellsOf tg_math_bits_deBruijn32tab = 32 := ⟨tabElem, by kernel_rfl, by kernel_rfl, by kernel_rfl, by kernel_rfl⟩
theorem lit_inj {H : Type} {k : IntKind} {x y : Int} (h : (DataW.lit (.int k x) : DataW H) = .lit (.int k y)) : x = y := by injection h with h; injection h
set_option maxRecDepth 100000 in
theorem tab_of_laid {W : World} (h : laidMetH Tryd.prog laidL W) : TabOk (Mv.of W) := by
  have h := (laidMetH_iff.1 h).1
  rw [laid_first] at h
  obtain ⟨ps, ⟨g0, t0, cs0, f0, p0, q0, hg0, ht0, hv0, hd0, _⟩, _⟩ := h
  obtain rfl := Option.some.inj (gTab.symm.trans hg0)
  obtain rfl := Option.some.inj (tTab.symm.trans ht0)
  obtain ⟨e, hu, hue, ce, ct⟩ := tab_under
  obtain ⟨xs, m, _, hx, hlen, hn, hel⟩ := DataW.trod_array hu hd0
  intro j hj
  show W.cell? ⟨_, j, none⟩ = _
  rw [World.var?_cell hg0 hv0 j]
  have h1 := hel j hj
  rw [ce, Nat.mul_one] at h1
  obtain ⟨y, hy⟩ : ∃ y, xs[j]? = some y := ⟨_, List.getElem?_eq_getElem (by omega)⟩
  rw [hy] at h1
  obtain ⟨k, e1, e2, _⟩ := DataW.trod_int hue h1
  have e3 : cs0[j]? = some (.int .u8 k) := by
    have := congrArg (fun l : List Value => l[0]?) e1
    simp only [List.getElem?_take, List.getElem?_drop, Nat.add_zero] at this
    simpa using this
  rw [e3]
  simp only [Prod.mk.injEq] at hx
  have h2 : (DataW.agg (xs.map (·.1)) : DataW Unit) = Rows.laid_math_bits_deBruijn32tab := hx.1.symm
  unfold Rows.laid_math_bits_deBruijn32tab at h2
  injection h2 with h2
  have h3 : (xs.map (·.1))[j]? = some (.lit (.int .u8 k)) := by rw [List.getElem?_map, hy, e2]; rfl
  rw [h2] at h3
  have h4 : ∀ j, j < 32 → ([.lit (.int .u8 0), .lit (.int .u8 1), .lit (.int .u8 28), .lit (.int .u8 2), .lit (.int .u8 29), .lit (.int .u8 14), .lit (.int .u8 24), .lit (.int .u8 3), .lit (.int .u8 30), .lit (.int .u8 22), .lit (.int .u8 20), .lit (.int .u8 15), .lit (.int .u8 25), .lit (.int .u8 17), .lit (.int .u8 4), .lit (.int .u8 8), .lit (.int .u8 31), .lit (.int .u8 27), .lit (.int .u8 13), .lit (.int .u8 23), .lit (.int .u8 21), .lit (.int .u8 19), .lit (.int .u8 16), .lit (.int .u8 7), .lit (.int .u8 26), .lit (.int .u8 12), .lit (.int .u8 18), .lit (.int .u8 6), .lit (.int .u8 11), .lit (.int .u8 5), .lit (.int .u8 10), .lit (.int .u8 9)] : List (DataW Unit))[j]? = some (.lit (.int .u8 (tab.getD j 0))) := by
    intro j hj
    match j, hj with
    | 0, _ | 1, _ | 2, _ | 3, _ | 4, _ | 5, _ | 6, _ | 7, _ | 8, _ | 9, _ | 10, _ | 11, _ | 12, _ | 13, _ | 14, _ | 15, _ | 16, _ | 17, _ | 18, _ | 19, _ | 20, _ | 21, _ | 22, _ | 23, _ | 24, _ | 25, _ | 26, _ | 27, _ | 28, _ | 29, _ | 30, _ | 31, _ => rfl
    | n + 32, h => omega
  rw [h4 j hj] at h3
  rw [lit_inj (Option.some.inj h3)]
set_option maxRecDepth 100000 in
theorem step_cells {W : World} {m : Nat} {t : TypeId} {f0 f1 f2 : Field} {ps rs : Array TypeId} {va : Bool} {cs : List Value} {y : DataW (List UInt8) × List MemPlace} {u v : Int} {c : UInt8} {nm : List UInt8} {f : FuncId}
    (he : Tryd.prog.underlying t = some (.struct #[f0, f1, f2])) (o0 : f0.offset = 0) (o1 : f1.offset = 1) (o2 : f2.offset = 2) (c0 : Tryd.prog.cellsOf f0.type = 1) (c1 : Tryd.prog.cellsOf f1.type = 1) (c2 : Tryd.prog.cellsOf f2.type = 1)
    (h0 : Tryd.prog.underlying f0.type = some (.int .i64)) (h1 : Tryd.prog.underlying f1.type = some (.int .i64)) (h2 : Tryd.prog.underlying f2.type = some (.func ps rs va))
    (hn : ((List.range Tryd.prog.funcs.size).filter fun f => (Tryd.prog.funcs[f]?).any (·.name.toUTF8.data.toList == c :: nm)) = [f])
    (hl : cs.length = 3) (h : DataW.trod (funcToken Tryd.prog) Tryd.prog W 0 (fun _ => true) true m t cs = some y) (hy : y.1 = .agg [.lit (.int .i64 u), .lit (.int .i64 v), .held (c :: nm)]) : cs = [.int .i64 u, .int .i64 v, .func (.func f) #[] #[]] := by
  obtain ⟨xs, k, _, hx, _, hxl, hf⟩ := DataW.trod_struct he h
  match cs, hl with
  | [v0, v1, v2], _ =>
    have q0 := hf 0 f0 rfl
    have q1 := hf 1 f1 rfl
    have q2 := hf 2 f2 rfl
    rw [o0, c0] at q0
    rw [o1, c1] at q1
    rw [o2, c2] at q2
    match xs, hxl with
    | [x0, x1, x2], _ =>
      obtain ⟨a, e0, z0, _⟩ := DataW.trod_int h0 q0
      obtain ⟨b, e1, z1, _⟩ := DataW.trod_int h1 q1
      rw [hx] at hy
      simp only [List.map_cons, List.map_nil, DataW.agg.injEq, List.cons.injEq, and_true] at hy
      obtain ⟨y0, y1, y2⟩ := hy
      have w0 : x0 = (.lit (.int .i64 a), []) := z0
      have w1 : x1 = (.lit (.int .i64 b), []) := z1
      rw [w0] at y0
      rw [w1] at y1
      obtain rfl : a = u := lit_inj y0
      obtain rfl : b = v := lit_inj y1
      have x2e : x2 = (.held (c :: nm), x2.2) := Prod.ext y2 rfl
      have q2' : DataW.trod (funcToken Tryd.prog) Tryd.prog W 0 (fun _ => true) true k f2.type [v2] = some (.held (c :: nm), x2.2) := by rw [← x2e]; exact q2
      have z2 := Go.func_of_trod h2 hn q2'
      simp only [List.drop_zero, List.take_succ_cons, List.take_zero, List.cons.injEq, and_true, List.drop_succ_cons] at e0 e1
      rw [e0, e1, z2]
set_option maxRecDepth 100000 in
theorem steps_of_laid {W : World} (h : laidMetH Tryd.prog laidL W) : StepsOk (Mv.of W) := by
  have hE := laidMetH.funcs h (show ("ablaut/multi.steps", _) ∈ laidL from List.mem_cons_of_mem _ (List.mem_cons_self ..))
  obtain ⟨g', t', cs, fuel, p, hg', ht', hv, hr⟩ := hE
  obtain rfl := Option.some.inj ((show Tryd.prog.globalNamed "ablaut/multi.steps" = some g_multi_steps by kernel_rfl).symm.trans hg')
  obtain rfl := Option.some.inj ((show (Tryd.prog.globals[g_multi_steps]?).map (·.type) = some 109 by kernel_rfl).symm.trans ht')
  obtain ⟨xs, m, _, hx, hl, hxl, hel⟩ := DataW.trod_array Tryd.underlying109 hr
  have hc9 : cs.toList.length = 9 := hl.trans (by kernel_rfl)
  have c3 : Tryd.prog.cellsOf 104 = 3 := by kernel_rfl
  have hel := fun i (hi : i < 3) => hel i hi
  rw [c3] at hel
  have hcl : ∀ i, i < 3 → ((cs.toList.drop (i * 3)).take 3).length = 3 := fun i hi => by rw [List.length_take, List.length_drop, hc9]; omega
  match xs, hxl with
  | [y0, y1, y2], _ =>
    simp only [List.map_cons, List.map_nil, Prod.mk.injEq] at hx
    have hx1 := hx.1
    have hd : (DataW.funcsOut (.agg [.agg [.lit (.int .i64 1), .lit (.int .i64 1), .iface "func" (.lit (.string [97, 98, 108, 97, 117, 116, 47, 109, 117, 108, 116, 105, 46, 115, 116, 101, 112, 115, 36, 49]))], .agg [.lit (.int .i64 1), .lit (.int .i64 0), .iface "func" (.lit (.string [97, 98, 108, 97, 117, 116, 47, 109, 117, 108, 116, 105, 46, 115, 116, 101, 112, 115, 36, 50]))], .agg [.lit (.int .i64 0), .lit (.int .i64 1), .iface "func" (.lit (.string [97, 98, 108, 97, 117, 116, 47, 109, 117, 108, 116, 105, 46, 115, 116, 101, 112, 115, 36, 51]))]]) : DataW (List UInt8)) = .agg [.agg [.lit (.int .i64 1), .lit (.int .i64 1), .held [97, 98, 108, 97, 117, 116, 47, 109, 117, 108, 116, 105, 46, 115, 116, 101, 112, 115, 36, 49]], .agg [.lit (.int .i64 1), .lit (.int .i64 0), .held [97, 98, 108, 97, 117, 116, 47, 109, 117, 108, 116, 105, 46, 115, 116, 101, 112, 115, 36, 50]], .agg [.lit (.int .i64 0), .lit (.int .i64 1), .held [97, 98, 108, 97, 117, 116, 47, 109, 117, 108, 116, 105, 46, 115, 116, 101, 112, 115, 36, 51]]] := rfl
    have hx2 := hd.symm.trans hx1
    simp only [DataW.agg.injEq, List.cons.injEq, and_true] at hx2
    obtain ⟨z0, z1, z2⟩ := hx2
    have r0 := step_cells (f := n_multi_steps_1) Tryd.underlying104 rfl rfl rfl (by kernel_rfl) (by kernel_rfl) (by kernel_rfl) Tryd.underlying3 Tryd.underlying3 Tryd.underlying102 (by kernel_rfl) (hcl 0 (by decide)) (hel 0 (by decide)) z0.symm
    have r1 := step_cells (f := n_multi_steps_2) Tryd.underlying104 rfl rfl rfl (by kernel_rfl) (by kernel_rfl) (by kernel_rfl) Tryd.underlying3 Tryd.underlying3 Tryd.underlying102 (by kernel_rfl) (hcl 1 (by decide)) (hel 1 (by decide)) z1.symm
    have r2 := step_cells (f := n_multi_steps_3) Tryd.underlying104 rfl rfl rfl (by kernel_rfl) (by kernel_rfl) (by kernel_rfl) Tryd.underlying3 Tryd.underlying3 Tryd.underlying102 (by kernel_rfl) (hcl 2 (by decide)) (hel 2 (by decide)) z2.symm
    have hall : cs.toList = stepsV := by
      have e : cs.toList = (cs.toList.drop (0 * 3)).take 3 ++ ((cs.toList.drop (1 * 3)).take 3 ++ (cs.toList.drop (2 * 3)).take 3) := by
        refine List.ext_getElem? fun i => ?_
        rcases Nat.lt_or_ge i 3 with h | h
        · rw [List.getElem?_append_left (by rw [hcl 0 (by decide)]; exact h), List.getElem?_take, if_pos h, List.getElem?_drop]; congr 1; omega
        · rw [List.getElem?_append_right (by rw [hcl 0 (by decide)]; exact h), hcl 0 (by decide)]
          rcases Nat.lt_or_ge i 6 with h6 | h6
          · rw [List.getElem?_append_left (by rw [hcl 1 (by decide)]; omega), List.getElem?_take, if_pos (by omega), List.getElem?_drop]; congr 1; omega
          · rw [List.getElem?_append_right (by rw [hcl 1 (by decide)]; omega), hcl 1 (by decide)]
            rcases Nat.lt_or_ge i 9 with h9 | h9
            · rw [List.getElem?_take, if_pos (by omega), List.getElem?_drop]; congr 1; omega
            · rw [List.getElem?_eq_none (by omega), List.getElem?_eq_none (by rw [hcl 2 (by decide)]; omega)]
      rw [e, r0, r1, r2]; rfl
    intro j v hj
    show W.cell? ⟨_, j, none⟩ = _
    rw [World.var?_cell hg' hv j, ← hj, ← hall]
    simp
theorem two_funcs {W : World} {n : String} {g t : Nat} {f1 f2 : FuncId} {o1 o2 : Field} {p1 r1 : Array TypeId} {v1 : Bool} {p2 r2 : Array TypeId} {v2 : Bool} {s1 s2 : List UInt8} {c1 c2 : UInt8} {d : DataW Unit}
    (hg : Tryd.prog.globalNamed n = some g) (ht : (Tryd.prog.globals[g]?).map (·.type) = some t) (hu : Tryd.prog.underlying t = some (.struct #[o1, o2])) (h1 : Tryd.prog.underlying o1.type = some (.func p1 r1 v1)) (h2 : Tryd.prog.underlying o2.type = some (.func p2 r2 v2))
    (ho1 : o1.offset = 0 ∧ Tryd.prog.cellsOf o1.type = 1) (ho2 : o2.offset = 1 ∧ Tryd.prog.cellsOf o2.type = 1) (hd : d.funcsOut = .agg [.held (c1 :: s1), .held (c2 :: s2)])
    (hn1 : ((List.range Tryd.prog.funcs.size).filter fun f => (Tryd.prog.funcs[f]?).any (·.name.toUTF8.data.toList == c1 :: s1)) = [f1]) (hn2 : ((List.range Tryd.prog.funcs.size).filter fun f => (Tryd.prog.funcs[f]?).any (·.name.toUTF8.data.toList == c2 :: s2)) = [f2])
    (h : funcsAt Tryd.prog W n d) : W.cell? ⟨g, 0, none⟩ = some (.func (.func f1) #[] #[]) ∧ W.cell? ⟨g, 1, none⟩ = some (.func (.func f2) #[] #[]) := by
  obtain ⟨g', t', cs, fuel, p, hg', ht', hv, hr⟩ := h
  obtain rfl := Option.some.inj (hg.symm.trans hg')
  obtain rfl := Option.some.inj (ht.symm.trans ht')
  obtain ⟨xs, m, rfl, hx, hl, hxl, hel⟩ := DataW.trod_struct hu hr
  have e1 := hel 0 o1 rfl
  have e2 := hel 1 o2 rfl
  rw [ho1.1, ho1.2] at e1
  rw [ho2.1, ho2.2] at e2
  have hx2 : xs.length = 2 := hxl
  match xs, hx2 with
  | [y1, y2], _ =>
    simp only [List.getElem?_cons_zero, List.getElem?_cons_succ] at e1 e2
    obtain ⟨w1, q1, _, z1⟩ := Go.RowKit.func_of_trod h1 e1
    obtain ⟨w2, q2, _, z2⟩ := Go.RowKit.func_of_trod h2 e2
    rw [hd] at hx
    simp only [List.map_cons, List.map_nil, Prod.mk.injEq, DataW.agg.injEq, List.cons.injEq, and_true] at hx
    rw [q1] at e1
    rw [q2] at e2
    have y1e : y1 = (.held (c1 :: s1), y1.2) := Prod.ext hx.1.1.symm rfl
    have y2e : y2 = (.held (c2 :: s2), y2.2) := Prod.ext hx.1.2.symm rfl
    rw [y1e] at e1
    rw [y2e] at e2
    rw [Go.func_of_trod h1 hn1 e1] at q1
    rw [Go.func_of_trod h2 hn2 e2] at q2
    have r1 : cs[0]? = some (.func (.func f1) #[] #[]) := by
      have := congrArg (fun l : List Value => l[0]?) q1
      simpa using this
    have r2 : cs[1]? = some (.func (.func f2) #[] #[]) := by
      have := congrArg (fun l : List Value => l[0]?) q2
      simp only [List.getElem?_take, List.getElem?_drop] at this
      simpa using this
    exact ⟨by rw [World.var?_cell hg hv 0]; exact r1, by rw [World.var?_cell hg hv 1]; exact r2⟩
set_option maxRecDepth 100000 in
theorem ends_of_laid {W : World} (h : laidMetH Tryd.prog laidL W) : VarsOk (Mv.of W) := by
  have hE := laidMetH.funcs h (show ("ablaut/analogy.ending", _) ∈ laidL from List.mem_cons_of_mem _ (List.mem_cons_of_mem _ (List.mem_cons_self ..)))
  have hF := laidMetH.funcs h (show ("ablaut/analogy.beginning", _) ∈ laidL from List.mem_cons_of_mem _ (List.mem_cons_of_mem _ (List.mem_cons_of_mem _ (List.mem_cons_self ..))))
  refine ⟨two_funcs (by kernel_rfl) (by kernel_rfl) Tryd.underlying83 Tryd.underlying80 Tryd.underlying81 ⟨rfl, by kernel_rfl⟩ ⟨rfl, by kernel_rfl⟩ rfl (by kernel_rfl) (by kernel_rfl) hE, two_funcs (by kernel_rfl) (by kernel_rfl) Tryd.underlying83 Tryd.underlying80 Tryd.underlying81 ⟨rfl, by kernel_rfl⟩ ⟨rfl, by kernel_rfl⟩ rfl (by kernel_rfl) (by kernel_rfl) hF⟩
theorem vars_of_laid {W : World} (h : laidMetH Tryd.prog laidL W) : VarsAll (Mv.of W) := ⟨tab_of_laid h, steps_of_laid h, ends_of_laid h⟩
end Go.Proofs.YtpbbnmjkbfbelabDoor
