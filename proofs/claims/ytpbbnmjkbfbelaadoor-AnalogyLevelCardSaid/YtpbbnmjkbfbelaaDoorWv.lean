/- Chapter 30: the program's variables, as they are laid. -/
import Derived.Test.YtpbbnmjkbfbelaaDoorBd
import Derived.Test.YtpbbnmjkbfbelaaDoorRows
import Derived.LaidHandle
import Derived.RowKitVeiled
import Derived.ProofKit
import Derived.LaidMore
set_option linter.unusedSimpArgs false
set_option linter.unusedVariables false
namespace Go.Proofs.YtpbbnmjkbfbelaaDoor
open Go Go.Sy Go.ChangeShapes Go.WideShapes Go.ChangeAt Go.WideElems Go.RowKit
def laidL : List (String × DataW Unit) := [("ablaut/analogy.ending", Rows.laid_ablaut_analogy_ending), ("ablaut/analogy.beginning", Rows.laid_ablaut_analogy_beginning)]
theorem two_funcs {W : World} {n : String} {g t : Nat} {f1 f2 : FuncId} {o1 o2 : Field} {p1 r1 : Array TypeId} {v1 : Bool} {p2 r2 : Array TypeId} {v2 : Bool} {s1 s2 : List UInt8} {c1 c2 : UInt8} {d : DataW Unit}
    (hg : Tryd.prog.globalNamed n = some g) (ht : (Tryd.prog.globals[g]?).map (·.type) = some t) (hu : Tryd.prog.underlying t = some (.struct #[o1, o2])) (h1 : Tryd.prog.underlying o1.type = some (.func p1 r1 v1)) (h2 : Tryd.prog.underlying o2.type = some (.func p2 r2 v2))
    (ho1 : o1.offset = 0 ∧ Tryd.prog.cellsOf o1.type = 1) (ho2 : o2.offset = 1 ∧ Tryd.prog.cellsOf o2.type = 1) (hd : d.funcsOut = .agg [.held (c1 :: s1), .held (c2 :: s2)])
    (hn1 : ((List.range Tryd.prog.funcs.size).filter fun f => (Tryd.prog.funcs[f]?).any (·.name.toUTF8.data.toList == c1 :: s1)) = [f1]) (hn2 : ((List.range Tryd.prog.funcs.size).filter fun f => (Tryd.prog.funcs[f]?).any (·.name.toUTF8.data.toList == c2 :: s2)) = [f2])
    (h : funcsAt Tryd.prog W n d) : W.cell? ⟨g, 0, none⟩ = some (.func (.func f1) #[] #[]) ∧ W.cell? ⟨g, 1, none⟩ = some (.func (.func f2) #[] #[]) := by
  obtain ⟨g', t', cs, fuel, p, hg', ht', hv, hr⟩ := h
  obtain rfl := Option.some.inj (hg.symm.trans hg')
  obtain rfl := Option.some.inj (ht.symm.trans ht')
  obtain ⟨xs, m, rfl, hx, hl, hxl, hel⟩ := DataW.trod_struct hu hr
  have e1 := hel 0 o1 rfl
  have e2 := hel 1 o2 rfl
  rw [ho1.1, ho1.2] at e1
  rw [ho2.1, ho2.2] at e2
  have hx2 : xs.length = 2 := hxl
  match xs, hx2 with
  | [y1, y2], _ =>
    simp only [List.getElem?_cons_zero, List.getElem?_cons_succ] at e1 e2
    obtain ⟨w1, q1, _, z1⟩ := Go.RowKit.func_of_trod h1 e1
    obtain ⟨w2, q2, _, z2⟩ := Go.RowKit.func_of_trod h2 e2
    rw [hd] at hx
    simp only [List.map_cons, List.map_nil, Prod.mk.injEq, DataW.agg.injEq, List.cons.injEq, and_true] at hx
    rw [q1] at e1
    rw [q2] at e2
    have y1e : y1 = (.held (c1 :: s1), y1.2) := Prod.ext hx.1.1.symm rfl
    have y2e : y2 = (.held (c2 :: s2), y2.2) := Prod.ext hx.1.2.symm rfl
    rw [y1e] at e1
    rw [y2e] at e2
    rw [Go.func_of_trod h1 hn1 e1] at q1
    rw [Go.func_of_trod h2 hn2 e2] at q2
    have r1 : cs[0]? = some (.func (.func f1) #[] #[]) := by
      have := congrArg (fun l : List Value => l[0]?) q1
      simpa using this
    have r2 : cs[1]? = some (.func (.func f2) #[] #[]) := by
      have := congrArg (fun l : List Value => l[0]?) q2
      simp only [List.getElem?_take, List.getElem?_drop] at this
      simpa using this
    exact ⟨by rw [World.var?_cell hg hv 0]; exact r1, by rw [World.var?_cell hg hv 1]; exact r2⟩
set_option maxRecDepth 100000 in
theorem vars_of_laid {W : World} (h : laidMetH Tryd.prog laidL W) : VarsOk (Mv.of W) := by
  have hE := laidMetH.funcs h (show ("ablaut/analogy.ending", _) ∈ laidL from List.mem_cons_self ..)
  have hF := laidMetH.funcs h (show ("ablaut/analogy.beginning", _) ∈ laidL from List.mem_cons_of_mem _ (List.mem_cons_self ..))
  refine ⟨two_funcs (by kernel_rfl) (by kernel_rfl) Tryd.underlying80 Tryd.underlying77 Tryd.underlying78 ⟨rfl, by kernel_rfl⟩ ⟨rfl, by kernel_rfl⟩ rfl (by kernel_rfl) (by kernel_rfl) hE, two_funcs (by kernel_rfl) (by kernel_rfl) Tryd.underlying80 Tryd.underlying77 Tryd.underlying78 ⟨rfl, by kernel_rfl⟩ ⟨rfl, by kernel_rfl⟩ rfl (by kernel_rfl) (by kernel_rfl) hF⟩
end Go.Proofs.YtpbbnmjkbfbelaaDoor
