/- Chapter 18: slices.Delete. -/
import Derived.Test.YtkhcfbdjmpodbaaDoorBv
import Derived.Lib.SliceRun
import Derived.Laws.Slices
import Derived.Lib.Overlaps
import Derived.Lib.AppendZerosOnto
import Derived.Test.YtkhcfbdjmpodbaaDoorTf
set_option linter.unusedSimpArgs false
set_option linter.unusedVariables false
/- Chapter 18: slices.Delete. -/
namespace Go.Sy
open Go Go.RowKit
section
variable {P : Program} {c : Cx} {L : List Nat} {ρ : Env} {blks : List Blk} {m : Mem} {R : Value → HW → Prop} {Dn : Nat → List U → HW → Prop} {A : List (List U → HW → Prop)}
end
theorem Mem.upd_upd (m : Mem) (g : Nat) (x y : Obj) : (m.upd g x).upd g y = m.upd g y := by
  funext b
  by_cases h : b = g
  · subst h; rw [Mem.upd_same, Mem.upd_same]
  · rw [Mem.upd_other _ _ h, Mem.upd_other _ _ h, Mem.upd_other _ _ h]
end Go.Sy
namespace Go.Proofs.YtkhcfbdjmpodbaaDoor
open Go Go.Sy Go.RowKit
theorem sizeI : (Tryd.prog.info? 3).map (·.size) = some 1 := by kernel_rfl
end Go.Proofs.YtkhcfbdjmpodbaaDoor
/- Chapter 18: an alignment without a word. -/
namespace Go.Sy
open Go Go.RowKit
def Mem.one (m : Mem) (g : Nat) : Mem := fun b => if b = g then m b else none
theorem Mem.one_same (m : Mem) (g : Nat) : m.one g g = m g := if_pos rfl
theorem Mem.one_sub {m : Mem} {g b : Nat} {o : Obj} (h : m.one g b = some o) : m b = some o := by
  unfold Mem.one at h; split at h
  · exact h
  · cases h
structure IR.ok (r : IR) : Prop where
  le : r.l.length ≤ r.cap
  nil : r.p = none → r.cap = 0
  small : r.l.length < 2 ^ 40
end Go.Sy
namespace Go.Proofs.YtkhcfbdjmpodbaaDoor
open Go Go.Sy Go.RowKit
structure TabR (m : Mem) (q : Option Addr) (cq : Nat) (rs : List IR) : Prop where
  out : Row m 29 1 q cq rs.length (rs.map IR.v)
  rows : ∀ r ∈ rs, RowI m r.p r.cap r.l
theorem TabR.nil (m : Mem) : TabR m none 0 [] := ⟨Row.nil m 29 1, fun _ h => by cases h⟩
theorem TabR.le {m m' : Mem} {q : Option Addr} {cq : Nat} {rs : List IR} (h : TabR m q cq rs) (hle : m.le m') : TabR m' q cq rs := ⟨Row.le h.out hle, fun r hr => (h.rows r hr).le' hle⟩
theorem TabR.tab {m : Mem} {q : Option Addr} {cq : Nat} {rs : List IR} (h : TabR m q cq rs) : TabI m q cq rs := ⟨fun _ => h.out, h.rows, cap0_of h.out, h.out.cap_le⟩
theorem TabR.push {m m' : Mem} {q q' : Option Addr} {cq cq' : Nat} {rs : List IR} {r : IR} (h : TabR m q cq rs) (hr : RowI m r.p r.cap r.l) (ho : Row m' 29 1 q' cq' (rs.length + 1) (rs.map IR.v ++ [r.v])) (hk : ∀ b, ((∃ o, q = some ⟨b, o, none⟩) → cq < rs.length + 1) → m b ≠ none → m' b = m b) : TabR m' q' cq' (rs ++ [r]) :=
  ⟨by rw [List.length_append, List.map_append]; exact ho, fun x hx => by
    rcases List.mem_append.1 hx with hx | hx
    · exact (h.rows x hx).keepA h.out hk
    · rw [List.mem_singleton] at hx; subst hx; exact hr.keepA h.out hk⟩
end Go.Proofs.YtkhcfbdjmpodbaaDoor
/- Chapter 18: an alignment without a word, in the reference; Without. -/
namespace Go.Sy
open Go Go.RowKit
section
variable {P : Program} {c : Cx} {L : List Nat} {ρ : Env} {blks : List Blk} {m : Mem} {R : Value → HW → Prop} {Dn : Nat → List U → HW → Prop} {A : List (List U → HW → Prop)}
end
end Go.Sy
namespace Go.Proofs.YtkhcfbdjmpodbaaDoor
open Go Go.Sy Go.RowKit
end Go.Proofs.YtkhcfbdjmpodbaaDoor
/- Chapter 18: Without. -/
namespace Go.Sy
open Go Go.RowKit
end Go.Sy
namespace Go.Proofs.YtkhcfbdjmpodbaaDoor
open Go Go.Sy Go.RowKit
end Go.Proofs.YtkhcfbdjmpodbaaDoor
/- Chapter 18: calls that change memory and read the code's own literal. -/
namespace Go.Sy
open Go Go.RowKit
section
variable {P : Program} {c : Cx} {L : List Nat} {ρ : Env} {blks : List Blk} {m : Mem} {R : Value → HW → Prop} {Dn : Nat → List U → HW → Prop} {A : List (List U → HW → Prop)}
theorem DenM.callOB {f : FuncId} {args : List SV} {sh : Sh} {k : Tree} {vs : List Value} {mo : Mem} {Q : Value → Mem → Prop} (j vb : Nat) (kb : Blk) (hLj : L[j]? = some vb) (hbj : blks[j]? = some kb) (hc : FnO P f vs (mo.upd vb (.cells (SV.dens L ρ kb.cells).toArray kb.elem (0, 0))) Q) (hQ : ∀ v mq, Q v mq → mq vb = some (.cells (SV.dens L ρ kb.cells).toArray kb.elem (0, 0)))
    (hargs : SV.dens L ρ args = vs) (hs : scBlks ρ.length blks = true) (hmo : ∀ b o, mo b = some o → m b = some o)
    (hk : ∀ v mq, (∀ b, mq b ≠ none → b ≠ vb → mo b ≠ none ∨ (m b = none ∧ b ∉ L ∧ ¬ c.hb.own b)) → Q v mq → ∃ us, UOk sh us ∧ v = (sh.fresh ρ.length).1.den L (ρ ++ us) ∧ DenM P R Dn k L (ρ ++ us) c ((m.minus mo).join (mq.del vb)) A) : DenM P R Dn (.call false f args sh blks k) L ρ c m A := fun g => by
  have hmem : vb ∈ L := List.mem_of_getElem? hLj
  have hmov : mo vb = none := by
    cases e : mo vb with
    | none => rfl
    | some o => have := hmo vb o e; rw [(g.blk vb hmem).1] at this; cases this
  refine DenM.callOw (mo := mo) (Q := fun v m' => ∃ mq, m' = mq.del vb ∧ Q v mq) (fun w hw => ?_) hargs hs hmo ?_ g
  · have hgd : L.getD j 0 = vb := by rw [List.getD_eq_getElem?_getD, hLj]; rfl
    have hvb : w.heap[vb]? = some (.cells (SV.dens L ρ kb.cells).toArray kb.elem (0, 0)) := by have := hw.blk j kb hbj; rwa [hgd] at this
    refine (hc w fun b o hb => ?_).mono ?_
    · by_cases e : b = vb
      · subst e; rw [Mem.upd_same] at hb; cases hb; exact hvb
      · rw [Mem.upd_other _ _ e] at hb; exact hw.hold.2 b o (hmo b o hb)
    · rintro e w' ⟨v, rfl, h1, h2, mq, h3, h4, h5⟩
      refine ⟨v, rfl, h1, fun k hk hn => ?_, mq.del vb, fun b hb => ?_, fun b o hb => ?_, mq, rfl, h5⟩
      · by_cases e : k = vb
        · subst e; rw [hvb]; exact h4 _ _ (hQ v mq h5)
        · exact h2 k hk (by rw [Mem.upd_other _ _ e]; exact hn)
      · have hne : b ≠ vb := fun e => hb (by rw [e, Mem.del_same])
        rw [Mem.del_other _ hne] at hb
        rcases h3 b hb with h | h
        · rw [Mem.upd_other _ _ hne] at h; exact .inl h
        · exact .inr h
      · have hne : b ≠ vb := fun e => by rw [e, Mem.del_same] at hb; cases hb
        rw [Mem.del_other _ hne] at hb
        exact h4 b o hb
  · rintro v m' hfr ⟨mq, rfl, h5⟩
    exact hk v mq (fun b hb hne => hfr b (by rw [Mem.del_other _ hne]; exact hb)) h5
theorem DenM.overlaps {f : FuncId} {fn : Func} {aO : Array Operand} {ats : Array TypeId} {ty tS tR e : TypeId} {fv sv xv : SV} {k : Tree} {g1 g2 o1 o2 la ca lb cb : Nat} {c1 c2 : Array Value} {e1 e2 : TypeId} (hf : P.funcs[f]? = some fn) (hname : (fn.name == "runtime.NumGoroutine") = false) (hb : fn.body.isNone = true) (hn : Extern.findNext fn = none) (he : Extern.find fn = some (Extern.SlicesOverlaps.overlaps #[tS, tS] #[tR]))
    (hu : P.underlying tS = some (.slice e)) (hz : (P.info? e).map (·.size) = some 1) (hm1 : m g1 = some (.cells c1 e1 (0, 0))) (hm2 : m g2 = some (.cells c2 e2 (0, 0))) (hne : g1 ≠ g2) (hs2 : c2.size ≠ 0)
    (hk : DenM P R Dn k L (ρ ++ [.b false]) c m A) (hxv : sv.den L ρ = .slice (some ⟨g1, o1, none⟩) la ca) (hyv : xv.den L ρ = .slice (some ⟨g2, o2, none⟩) lb cb) (hs : scBlks ρ.length blks = true := by rfl) :
    DenM P R Dn (.ext false ⟨.call ⟨.value (.func f), aO, ats⟩, ty, [fv, sv, xv]⟩ .bool blks k) L ρ c m A := .extM hs fun gd w hw => by
  have hg1 := hw.hold.2 g1 _ hm1
  have hg2 := hw.hold.2 g2 _ hm2
  have hsz : ∀ w, (Go.sizeOf e).run P w = .ok 1 w := fun w => by
    cases hi : P.info? e with
    | none => rw [hi] at hz; cases hz
    | some i =>
      rw [hi] at hz
      have : i.size = 1 := by simpa using hz
      simp [Go.sizeOf, typeInfo, hi, this]
  refine ⟨.bool false, w, none, m, [.b false], ?_, ⟨rfl, rfl, rfl, Nat.le_refl _, fun _ _ _ => rfl⟩, fun _ h => (by cases h), fun _ _ _ => rfl, hw.hold.2, fun _ => rfl, uOk_of rfl, ?_, hk⟩
  · show (callFunc f ([fv.den L ρ, sv.den L ρ, xv.den L ρ].drop 1).toArray).run P w = _
    rw [hxv, hyv]
    show (callFunc f #[.slice (some ⟨g1, o1, none⟩) la ca, .slice (some ⟨g2, o2, none⟩) lb cb]).run P w = _
    rw [run_callFunc_extern hf hname hb hn he, Lib.run_overlaps_apart w tS tR e hu 1 hsz ⟨g1, o1, none⟩ ⟨g2, o2, none⟩ la ca lb cb hne e1 e2 c1.size c2.size ?_ ?_ hs2 ?_ ?_]
    · rfl
    · simp [World.shape?, hg1]
    · simp [World.shape?, hg2]
    · simp only [World.frozen?, hg1]; simp
    · simp only [World.frozen?, hg1]; simp
  · have := getElem_env ρ [.b false] 0
    rw [Nat.add_zero] at this
    simp only [Sh.fresh, SV.den, BT.eval, Env.bool, this]; rfl
end
end Go.Sy
/- Chapter 18: slices.Insert. -/
namespace Go.Sy
open Go Go.RowKit
section
variable {P : Program} {c : Cx} {L : List Nat} {ρ : Env} {blks : List Blk} {m : Mem} {R : Value → HW → Prop} {Dn : Nat → List U → HW → Prop} {A : List (List U → HW → Prop)}
theorem DenM.appendZ {aO : Array Operand} {t tn ty e : TypeId} {bytes : Nat} {sv nv : SV} {k : Tree} {g n cap kx : Nat} {kn kq : IntKind} {cur : Array Value} (hE : El P t e 1 bytes) (htn : P.underlying tn = some (.int kn)) (hm : m g = some (.cells cur e (0, 0)))
    (hn : n ≤ cur.size) (h0 : 0 < kx) (hroom : cap < n + kx) (h63 : n + kx ≤ maxLen) (hbytes : (n + kx) * bytes ≤ 140737488355328)
    (hk : ∀ g' cap' (cur' : Array Value), m g' = none → n + kx ≤ cap' → cap' ≤ maxLen → cur'.size = cap' → cur'.toList.take n = cur.toList.take n → DenM P R Dn k L (ρ ++ [.p (some ⟨g', 0, none⟩), .i (n + kx : Nat), .i (cap' : Nat)]) c (m.upd g' (.cells cur' e (0, 0))) A)
    (hv : sv.den L ρ = slv (some ⟨g, 0, none⟩) n cap) (hnv : nv.den L ρ = .int kq (kx : Int)) (hs : scBlks ρ.length blks = true := by rfl) :
    DenM P R Dn (.ext false ⟨.call ⟨.builtin .append, aO, #[t, tn]⟩, ty, [sv, nv]⟩ .sl blks k) L ρ c m A := .extM hs fun gd w hw => by
  obtain ⟨i, z, hi, hz, hsz, hby, hzs⟩ := hE.info
  have hg := hw.hold.2 g _ hm
  have hold : (Builtin.firstCells i.size n (.slice (some ⟨g, 0, none⟩) n cap)).run P w.drew = .ok (cur.toList.take n).toArray w.drew := by
    refine run_firstCells_some (P := P) w.drew i.size n ⟨g, 0, none⟩ n cap (cur.toList.take n) (by rw [hsz, List.length_take, Nat.mul_one]; simp; omega) fun j v hj => ?_
    have hj' : j < n := by
      have := (List.getElem?_eq_some_iff.1 hj).1
      rw [List.length_take] at this; omega
    rw [List.getElem?_take_of_lt hj'] at hj
    rw [addr_add, Nat.zero_add]
    show w.drew.cell? ⟨g, j, none⟩ = some v
    have hg' : w.drew.heap[g]? = some (.cells cur e (0, 0)) := hg
    simp [World.cell?, hg']
    simpa using hj
  have hrun := Lib.run_append_grow_zeros (P := P) w t tn ty e i z kq kn hE.und htn hi hz (some ⟨g, 0, none⟩) n cap (cur.toList.take n) hold kx h0 (by omega) hroom (by simp only [maxLen] at h63; omega) (by rw [hby]; have := Nat.mul_le_mul_right bytes (show kx ≤ n + kx by omega); omega) (growslice_fits hroom (by rw [hby]; exact hbytes))
  have hlt : ∀ b, m b ≠ none → b < w.heap.size := fun b hb => (HW.mem m).inb w b hw.hold.2 hb
  have hmn : m w.heap.size = none := by
    cases h : m w.heap.size with
    | none => rfl
    | some o => have := hlt w.heap.size (by rw [h]; simp); omega
  have hge := grownCap_ge w (n + kx) cap e
  have hcm : grownCap w (n + kx) cap e ≤ maxLen := grownCap_le_maxLen w (n + kx) cap e h63
  generalize hgc : grownCap w (n + kx) cap e = gc at hrun hge hcm
  generalize hcur : (cur.toList.take n).toArray ++ Builtin.zeroCells z.cells kx ++ Builtin.zeroCells z.cells (gc - (n + kx)) = cur' at hrun
  have htl : (cur.toList.take n).length = n := by rw [List.length_take]; simp; omega
  have hsize : cur'.size = gc := by
    rw [← hcur]
    simp only [Array.size_append, List.size_toArray, size_zeroCells, hzs, htl, Nat.mul_one]; omega
  have htake : cur'.toList.take n = cur.toList.take n := by
    rw [← hcur, Array.toList_append, Array.toList_append, List.append_assoc, List.take_append_of_le_length (by simpa using (Nat.le_of_eq htl.symm))]
    show (cur.toList.take n).take n = _
    rw [List.take_take, Nat.min_self]
  refine ⟨slv (some ⟨w.heap.size, 0, none⟩) (n + kx) gc, w.drew.alloc (.cells cur' e), none, m.upd w.heap.size (.cells cur' e (0, 0)), [.p (some ⟨w.heap.size, 0, none⟩), .i (n + kx : Nat), .i (gc : Nat)], ?_, ⟨rfl, rfl, rfl, by simp, fun k hk _ => heap_alloc_old w.drew _ k hk⟩, fun _ h => (by cases h), fun b hb _ => Mem.upd_other _ _ (by omega), fun b o hb => ?_, fun h => (by cases h), uOk_of rfl, (slv_fresh ρ L (some ⟨w.heap.size, 0, none⟩) (n + kx) gc).symm, hk w.heap.size gc cur' hmn hge hcm hsize htake⟩
  · show (builtin .append #[t, tn] ty (aO.map fun | .const _ => true | _ => false) #[sv.den L ρ, nv.den L ρ]).run P w = _
    rw [hv, hnv]
    show (do pure (Next.value (← Builtin.append_ #[t, tn] ty #[.slice (some ⟨g, 0, none⟩) n cap, .int kq (kx : Int)])) : Sem Next).run P w = _
    rw [Sem.run_bind, hrun]; rfl
  · by_cases e' : b = w.heap.size
    · rw [e', Mem.upd_same] at hb; cases hb; rw [e']; exact heap_alloc_new w.drew _
    · rw [Mem.upd_other _ _ e'] at hb
      have := hlt b (by rw [hb]; simp)
      exact (heap_alloc_old w.drew _ b this).trans (hw.hold.2 b o hb)
end
def insS (l : List Int) (k : Nat) (x : Int) : List Int := l.take k ++ [x] ++ l.drop k
theorem insS_len (l : List Int) (k : Nat) (x : Int) (hk : k ≤ l.length) : (insS l k x).length = l.length + 1 := by unfold insS; simp; omega
end Go.Sy
/- Chapter 18: slices.Insert, walked. -/
namespace Go.Sy
open Go Go.RowKit
section
variable {P : Program} {c : Cx} {L : List Nat} {ρ : Env} {blks : List Blk} {m : Mem} {R : Value → HW → Prop} {Dn : Nat → List U → HW → Prop} {A : List (List U → HW → Prop)}
theorem DenM.cap {aO : Array Operand} {t ty e : TypeId} {sv : SV} {k : Tree} {q : Option Addr} {n cap : Nat} (hu : P.underlying t = some (.slice e)) (hk : DenM P R Dn k L (ρ ++ [.i (cap : Nat)]) c m A) (hv : sv.den L ρ = .slice q n cap) (hs : scBlks ρ.length blks = true := by rfl) :
    DenM P R Dn (.ext false ⟨.call ⟨.builtin .cap, aO, #[t]⟩, ty, [sv]⟩ (.int .i64) blks k) L ρ c m A := .extM hs fun gd w hw => by
  refine ⟨goInt cap, w, none, m, [.i (cap : Nat)], ?_, ⟨rfl, rfl, rfl, Nat.le_refl _, fun _ _ _ => rfl⟩, fun _ h => (by cases h), fun _ _ _ => rfl, hw.hold.2, fun _ => rfl, uOk_of rfl, ?_, hk⟩
  · show (builtin .cap #[t] ty (aO.map fun | .const _ => true | _ => false) #[sv.den L ρ]).run P w = _
    rw [hv]
    show (do pure (Next.value (← Builtin.cap_ #[t] ty #[.slice q n cap])) : Sem Next).run P w = _
    simp [Builtin.cap_, run_underlying hu]
  · have := getElem_env ρ [.i (cap : Nat)] 0
    rw [Nat.add_zero] at this
    simp only [Sh.fresh, SV.den, IT.eval, Env.int, this]; rfl
end
theorem sl_den {i : Nat} {O N C : IT} {ρ : Env} {L : List Nat} {g o n cc : Nat} (hp : ρ.ptr i = some ⟨g, 0, none⟩) (ho : O.eval ρ = (o : Int)) (hn : N.eval ρ = (n : Int)) (hc : C.eval ρ = (cc : Int)) : (SV.sl i O N C).den L ρ = .slice (some ⟨g, o, none⟩) n cc := by
  simp only [SV.den, atAddr, hp, ho, hn, hc, Int.toNat_natCast, Option.map_some]
  rw [addr_add, Nat.zero_add]
theorem insB (A : List Value) (l : List Int) (k : Nat) (x : Int) (hk : k ≤ l.length) (hA : l.length + 1 ≤ A.length) (ht : A.take k = intsL (l.take k)) :
    (((A.take k ++ [Value.int .i64 x] ++ A.drop (k + 1)).take (k + 1) ++ intsL (l.drop k) ++ (A.take k ++ [Value.int .i64 x] ++ A.drop (k + 1)).drop (k + 1 + (intsL (l.drop k)).length)).length = A.length) ∧
    ((A.take k ++ [Value.int .i64 x] ++ A.drop (k + 1)).take (k + 1) ++ intsL (l.drop k) ++ (A.take k ++ [Value.int .i64 x] ++ A.drop (k + 1)).drop (k + 1 + (intsL (l.drop k)).length)).take (l.length + 1) = intsL (insS l k x) := by
  have h1 : (A.take k ++ [Value.int .i64 x]).length = k + 1 := by rw [List.length_append, List.length_take]; simp; omega
  have h2 : (A.take k ++ [Value.int .i64 x] ++ A.drop (k + 1)).take (k + 1) = A.take k ++ [Value.int .i64 x] := by
    rw [List.take_append_of_le_length (by omega), List.take_of_length_le (by omega)]
  have h3 : (intsL (l.drop k)).length = l.length - k := by rw [intsL_len, List.length_drop]
  rw [h2]
  refine ⟨by simp only [List.length_append, List.length_drop, h1, h3, List.length_take, List.length_cons, List.length_nil]; omega, ?_⟩
  rw [List.take_append_of_le_length (by rw [List.length_append, h1, h3]; omega), List.take_of_length_le (by rw [List.length_append, h1, h3]; omega), ht]
  unfold insS intsL
  rw [List.map_append, List.map_append]; rfl
theorem insC (A : List Value) (l : List Int) (k : Nat) (x : Int) (hk : k ≤ l.length) (hA : l.length + 1 ≤ A.length) (ht : A.take k = intsL (l.take k)) :
    (((A.take (k + 1) ++ intsL (l.drop k) ++ A.drop (k + 1 + (intsL (l.drop k)).length)).take k ++ [Value.int .i64 x] ++ (A.take (k + 1) ++ intsL (l.drop k) ++ A.drop (k + 1 + (intsL (l.drop k)).length)).drop (k + 1)).length = A.length) ∧
    ((A.take (k + 1) ++ intsL (l.drop k) ++ A.drop (k + 1 + (intsL (l.drop k)).length)).take k ++ [Value.int .i64 x] ++ (A.take (k + 1) ++ intsL (l.drop k) ++ A.drop (k + 1 + (intsL (l.drop k)).length)).drop (k + 1)).take (l.length + 1) = intsL (insS l k x) := by
  have h0 : (A.take (k + 1)).length = k + 1 := by rw [List.length_take]; omega
  have h3 : (intsL (l.drop k)).length = l.length - k := by rw [intsL_len, List.length_drop]
  have h1 : (A.take (k + 1) ++ intsL (l.drop k) ++ A.drop (k + 1 + (intsL (l.drop k)).length)).take k = A.take k := by
    rw [List.append_assoc, List.take_append_of_le_length (by omega), List.take_take, Nat.min_eq_left (by omega)]
  have h2 : (A.take (k + 1) ++ intsL (l.drop k) ++ A.drop (k + 1 + (intsL (l.drop k)).length)).drop (k + 1) = intsL (l.drop k) ++ A.drop (k + 1 + (intsL (l.drop k)).length) := by
    rw [List.append_assoc, List.drop_left' h0]
  rw [h1, h2]
  refine ⟨by simp only [List.length_append, List.length_drop, h3, List.length_take, List.length_cons, List.length_nil]; omega, ?_⟩
  rw [← List.append_assoc, List.take_append_of_le_length (by simp only [List.length_append, List.length_take, List.length_cons, List.length_nil, h3]; omega), List.take_of_length_le (by simp only [List.length_append, List.length_take, List.length_cons, List.length_nil, h3]; omega), ht]
  unfold insS intsL
  rw [List.map_append, List.map_append]; rfl
end Go.Sy
namespace Go.Proofs.YtkhcfbdjmpodbaaDoor
open Go Go.Sy Go.RowKit
theorem c_Insert (mo : Mem) (g cq vb : Nat) (cur : Array Value) (l : List Int) (k : Nat) (x : Int) (hk : k ≤ l.length) (hl : l.length ≤ cq) (hc : cq ≤ maxLen) (hsm : l.length < 2 ^ 30) (hsz : cur.size = cq) (hcur : cur.toList.take l.length = intsL l) (hm : mo g = some (.cells cur 3 (0, 0))) (hv : mo vb = some (.cells #[.int .i64 x] 3 (0, 0))) (hne : vb ≠ g) :
    FnO Tryd.prog n_slices_Insert___int_int_ [slv (some ⟨g, 0, none⟩) l.length cq, .int .i64 (k : Int), slv (some ⟨vb, 0, none⟩) 1 1] mo fun v mq => ∃ g' cq', v = slv (some ⟨g', 0, none⟩) (l.length + 1) cq' ∧ Row mq 3 1 (some ⟨g', 0, none⟩) cq' (l.length + 1) (intsL (insS l k x)) ∧ (∀ b, b ≠ g → mo b ≠ none → mq b = mo b) ∧ (g' = g ∨ mo g' = none) := by
  have hct : cur.toList.take k = intsL (l.take k) := by
    have h1 : (cur.toList.take l.length).take k = cur.toList.take k := by rw [List.take_take, Nat.min_eq_left (by omega)]
    rw [← h1, hcur]; unfold intsL; rw [List.map_take]
  have hrow : Row mo 3 1 (some ⟨g, 0, none⟩) cq l.length (intsL l) := ⟨by rw [intsL_len, Nat.mul_one], .inr ⟨g, cur, rfl, hm, hl, hc, by rw [hsz, Nat.mul_one], by rw [Nat.mul_one]; exact hcur⟩⟩
  have hn1 : ar .add .i64 (l.length : Int) 1 = ((l.length + 1 : Nat) : Int) := by rw [addI (by omega) (by omega)]; omega
  have hk1 : ar .add .i64 (k : Int) 1 = ((k + 1 : Nat) : Int) := by rw [addI (by omega) (by omega)]; omega
  have hcql : (cq : Int) ≤ 9223372036854775807 := by simp only [maxLen] at hc; omega
  have hvC : ∀ {ρ : Env} {c : Cx} {m : Mem}, Go.Sy.Good c [] m → m vb = some (.cells #[.int .i64 x] 3 (0, 0)) → Cells (vw c [] ρ [] m) (some ⟨vb, 0, none⟩) [.int .i64 x] := fun gd h => cells_of_mem gd (xs := [.int .i64 x]) h
  refine FnO.of S_slices_Insert___int_int_ mx [.p (some ⟨g, 0, none⟩), .i l.length, .i cq, .i k, .p (some ⟨vb, 0, none⟩), .i (1 : Nat), .i (1 : Nat)] rfl rfl fun c => .chk (by ((try simp only [evE, liE, lO, lU, snd]); (try simp only [cmE])); omega) (.chk (by ((try simp only [evE, liE, lO, lU, snd]); (try simp only [cmE])); omega) (.no (by ((try simp only [evE, liE, lO, lU, snd]); (try simp only [cmE])); omega) (.chk (by ((try simp only [evE, liE, lO, lU, snd]); (try simp only [cmE])); omega) (.ite (fun h1 => ?_) (fun h1 => ?_))))) <;> ((try simp only [evE, liE, lO, lU, snd] at h1); (try simp only [cmE] at h1))
  · have hkn : k = l.length := by omega
    refine .append (q := some ⟨g, 0, none⟩) (cap := cq) (n := l.length) (qx := some ⟨vb, 0, none⟩) (kx := 1) (capx := 1) (news := [.int .i64 x]) elI hrow (fun gd => hvC gd hv) rfl (by simp [Value.oneCell']) (fun h => by cases h) (by simp [maxLen]; omega) (by omega) (fun q' cap' m' hr' hk' hq' => .retL rfl fun gd => ?_)
    have hins : insS l k x = l ++ [x] := by unfold insS; rw [hkn, List.take_length, List.drop_length, List.append_nil]
    have hrr : Row m' 3 1 q' cap' (l.length + 1) (intsL (insS l k x)) := by
      rw [hins]; unfold intsL at hr' ⊢; rw [List.map_append]; exact hr'
    have hkeep : ∀ b, b ≠ g → mo b ≠ none → m' b = mo b := fun b hb hb' => hk' b (fun ⟨o, ho⟩ => by cases ho; exact absurd rfl hb) hb'
    rcases hq' with rfl | ⟨g', rfl, hg'⟩
    · exact ⟨g, cap', rfl, hrr, hkeep, .inl rfl⟩
    · exact ⟨g', cap', rfl, hrr, hkeep, .inr hg'⟩
  have hkn : k < l.length := by omega
  have hk1' : ar .add .i64 (k : Int) ((1 : Nat) : Int) = ((k + 1 : Nat) : Int) := hk1
  have hn1' : ar .add .i64 (l.length : Int) ((1 : Nat) : Int) = ((l.length + 1 : Nat) : Int) := hn1
  have hread : ∀ j u, (intsL (l.drop k))[j]? = some u → cur[k + j]? = some u := fun j u hu => by
    have hj : j < (l.drop k).length := by
      have := (List.getElem?_eq_some_iff.1 hu).1
      rwa [intsL_len] at this
    rw [List.length_drop] at hj
    have h3 := intsL_at l (k + j) (by omega)
    rw [← hcur, List.getElem?_take_of_lt (by omega)] at h3
    rw [intsL_at _ _ (by rw [List.length_drop]; exact hj)] at hu
    rw [← hu]
    have h4 : cur[k + j]? = some (.int .i64 (labAt l (k + j))) := by simpa using h3
    rw [h4]
    congr 2
    unfold labAt
    rw [List.getElem?_drop]
  have hdl : (intsL (l.drop k)).length = l.length - k := by rw [intsL_len, List.length_drop]
  have hcl : cur.toList.length = cq := by simpa using hsz
  refine .cap (q := some ⟨g, 0, none⟩) (n := l.length) (cap := cq) elI.und (.env (by (try simp only [liE, lO, lU, snd, aN]); rfl) (.ite (fun h2 => ?_) (fun h2 => ?_))) rfl
  · replace h2 : decide (ar .add .i64 (l.length : Int) ((1 : Nat) : Int) > (cq : Int)) = true := h2
    rw [hn1'] at h2
    have h2 := of_decide_eq_true h2
    refine .chk (by ((try simp only [evE, liE, lO, lU, snd]); (try simp only [cmE])); omega) (.appendZ (g := g) (n := k) (cap := cq) (kx := l.length + 1 - k) (kn := .i64) (kq := .i64) (cur := cur) elI (by kernel_rfl) hm (by omega) (by omega) (by omega) (by simp [maxLen]; omega) (by omega) (fun g' cap' cur' hg' hle' hc' hs' ht' => ?_) (sl_den (o := 0) rfl ?_ rfl rfl) ?_)
    · have e1 : k + (l.length + 1 - k) = l.length + 1 := by omega
      rw [e1] at hle' ⊢
      have hcl' : cur'.toList.length = cap' := by simpa using hs'
      have hB := insB cur'.toList l k x hk (by omega) (ht'.trans hct)
      have hvg : vb ≠ g' := fun e => by rw [e, hg'] at hv; cases hv
      have hgg : g ≠ g' := fun e => by rw [e, hg'] at hm; cases hm
      refine .env (by (try simp only [liE, lO, lU, snd, aN]); rfl) (.chk (by ((try simp only [evE, liE, lO, lU, snd]); (try simp only [cmE])); omega) (.copyR (g := g') (o := k) (dn := l.length + 1 - k) (dc := cap' - k) (sn := 1) (sc := 1) (a := ⟨vb, 0, none⟩) (cur := cur') (cs := [.int .i64 x]) elI (Mem.upd_same ..) (fun gd => hvC gd (by rw [Mem.upd_other _ _ hvg]; exact hv)) (by rw [Nat.mul_one]; show 1 = min 1 (l.length + 1 - k); omega) (by show k + 1 ≤ cur'.size; omega) (by simp [Value.oneCell']) ?_ (sl_den rfl ?_ ?_ ?_) rfl))
      · rw [Mem.upd_upd]
        refine .env (by (try simp only [liE, lO, lU, snd, aN]); rfl) (.chk ?_ (.chk (by ((try simp only [evE, liE, lO, lU, snd]); (try simp only [cmE])); omega) (.copyR (g := g') (o := k + 1) (dn := l.length - k) (dc := cap' - (k + 1)) (sn := l.length - k) (sc := cq - k) (a := ⟨g, k, none⟩) (cs := intsL (l.drop k)) elI (Mem.upd_same ..) (fun gd j u hu => ⟨g, k, rfl, ?_⟩) (by rw [Nat.mul_one, hdl]; show _ = min (l.length - k) (l.length - k); omega) ?_ (intsL_one _) ?_ (sl_den rfl ?_ ?_ ?_) (sl_den rfl ?_ ?_ ?_))))
        · ((try simp only [evE, liE, lO, lU, snd]); (try simp only [cmE])); simp only [hk1, hk1']; omega
        · rw [vw_mem gd (show Mem.upd mo g' _ g = some (.cells cur 3 (0, 0)) by rw [Mem.upd_other _ _ hgg]; exact hm)]; exact hread j u hu
        · simp only [List.size_toArray, List.length_append, List.length_take, List.length_drop, hcl', hdl, List.length_cons, List.length_nil]; omega
        · rw [Mem.upd_upd]
          refine .env (by (try simp only [liE, lO, lU, snd, aN]); rfl) (.retL rfl fun gd => ⟨g', cap', ?_, ⟨by rw [intsL_len, insS_len _ _ _ hk, Nat.mul_one], .inr ⟨g', _, rfl, Mem.upd_same .., hle', hc', ?_, ?_⟩⟩, fun b hb hb' => ?_, .inr hg'⟩)
          · show Value.slice ((some (⟨g', 0, none⟩ : Addr)).map fun a => a.add 0) (((l.length + 1 : Nat) : Int)).toNat ((cap' : Int)).toNat = _
            rw [Int.toNat_natCast, Int.toNat_natCast]
            show Value.slice (some ((⟨g', 0, none⟩ : Addr).add 0)) _ _ = _
            rw [addr_add]; rfl
          · rw [Nat.mul_one, List.size_toArray]; exact hB.1.trans hcl'
          · rw [Nat.mul_one]; exact hB.2
          · exact Mem.upd_other _ _ fun e => by rw [e] at hb'; exact hb' hg'
        · show (if (cap' : Int) = ar .add .i64 (k : Int) ((1 : Nat) : Int) then (0 : Int) else 0 + ar .add .i64 (k : Int) ((1 : Nat) : Int) * ((1 : Nat) : Int)) = _
          rw [hk1', if_neg (by omega)]; omega
        · show ((l.length + 1 : Nat) : Int) - ar .add .i64 (k : Int) ((1 : Nat) : Int) = _
          rw [hk1']; omega
        · show (cap' : Int) - ar .add .i64 (k : Int) ((1 : Nat) : Int) = _
          rw [hk1']; omega
        · show (if (cq : Int) = (k : Int) then (0 : Int) else 0 + (k : Int) * ((1 : Nat) : Int)) = _
          rw [if_neg (by omega)]; omega
        · show (l.length : Int) - (k : Int) = _
          omega
        · show (cq : Int) - (k : Int) = _
          omega
      · show (if (cap' : Int) = (k : Int) then (0 : Int) else 0 + (k : Int) * ((1 : Nat) : Int)) = _
        rw [if_neg (by omega)]; omega
      · show ((l.length + 1 : Nat) : Int) - (k : Int) = _
        omega
      · show (cap' : Int) - (k : Int) = _
        omega
    · show (if (cq : Int) = 0 then (0 : Int) else 0) = _
      rw [ite_self]; rfl
    · show Value.int .i64 (IntKind.i64.wrap (ar .add .i64 (l.length : Int) ((1 : Nat) : Int) - (k : Int))) = _
      rw [hn1', wrap_i64 (by omega) (by omega)]; congr 1; omega
  · replace h2 : decide (ar .add .i64 (l.length : Int) ((1 : Nat) : Int) > (cq : Int)) = false := h2
    rw [hn1'] at h2
    have h2 := of_decide_eq_false h2
    have hcn : l.length + 1 ≤ cq := by omega
    have hC := insC cur.toList l k x hk (by omega) hct
    have oK1 : (if (cq : Int) = ar .add .i64 (k : Int) ((1 : Nat) : Int) then (if (cq : Int) = 0 then (0 : Int) else 0) else (if (cq : Int) = 0 then (0 : Int) else 0) + ar .add .i64 (k : Int) ((1 : Nat) : Int) * ((1 : Nat) : Int)) = ((k + 1 : Nat) : Int) := by
      rw [hk1', if_neg (by omega), ite_self]; omega
    have oK : (if (cq : Int) = (k : Int) then (if (cq : Int) = 0 then (0 : Int) else 0) else (if (cq : Int) = 0 then (0 : Int) else 0) + (k : Int) * ((1 : Nat) : Int)) = (k : Int) := by
      rw [if_neg (by omega), ite_self]; omega
    have nK1 : ar .add .i64 (l.length : Int) ((1 : Nat) : Int) - ar .add .i64 (k : Int) ((1 : Nat) : Int) = ((l.length - k : Nat) : Int) := by rw [hn1', hk1']; omega
    have nK : ar .add .i64 (l.length : Int) ((1 : Nat) : Int) - (k : Int) = ((l.length + 1 - k : Nat) : Int) := by rw [hn1']; omega
    have cK1 : (cq : Int) - ar .add .i64 (k : Int) ((1 : Nat) : Int) = ((cq - (k + 1) : Nat) : Int) := by rw [hk1']; omega
    have cK : (cq : Int) - (k : Int) = ((cq - k : Nat) : Int) := by omega
    have hcs0 : (cur.size : Nat) ≠ 0 := by omega
    refine .chk ?_ (.chk ?_ (.overlaps (fn := Tryd.f102) (g1 := vb) (o1 := 0) (la := 1) (ca := 1) (g2 := g) (o2 := k + 1) (lb := l.length - k) (cb := cq - (k + 1)) (tS := 29) (tR := 4) (e := 3) Tryd.func102 (by kernel_rfl) (by kernel_rfl) (by kernel_rfl) (by kernel_rfl) elI.und sizeI hv hm hne hcs0 (.env (by (try simp only [liE, lO, lU, snd, aN]); rfl) (.yes rfl (.chk ?_ (.chk ?_ ?_)))) (sl_den (o := 0) rfl rfl rfl rfl) (sl_den rfl oK1 nK1 cK1)))
    · ((try simp only [evE, liE, lO, lU, snd]); (try simp only [cmE])); simp only [hn1, hn1']; omega
    · ((try simp only [evE, liE, lO, lU, snd]); (try simp only [cmE])); simp only [hn1, hn1', hk1, hk1', ite_self]; omega
    · ((try simp only [evE, liE, lO, lU, snd]); (try simp only [cmE])); simp only [hn1, hn1', hk1, hk1', ite_self]; omega
    · ((try simp only [evE, liE, lO, lU, snd]); (try simp only [cmE])); simp only [hn1, hn1', hk1, hk1', ite_self]; omega
    refine .copyR (g := g) (o := k + 1) (dn := l.length - k) (dc := cq - (k + 1)) (sn := l.length + 1 - k) (sc := cq - k) (a := ⟨g, k, none⟩) (cur := cur) (cs := intsL (l.drop k)) elI hm (fun gd j u hu => ⟨g, k, rfl, by rw [vw_mem gd hm]; exact hread j u hu⟩) (by rw [Nat.mul_one, hdl]; show _ = min (l.length + 1 - k) (l.length - k); omega) (by rw [hdl]; omega) (intsL_one _) ?_ (sl_den rfl oK1 nK1 cK1) (sl_den rfl oK nK cK)
    refine .env (by (try simp only [liE, lO, lU, snd, aN]); rfl) (.chk ?_ (.copyR (g := g) (o := k) (dn := l.length + 1 - k) (dc := cq - k) (sn := 1) (sc := 1) (a := ⟨vb, 0, none⟩) (cs := [.int .i64 x]) elI (Mem.upd_same ..) (fun gd => hvC gd (by rw [Mem.upd_other _ _ hne]; exact hv)) (by rw [Nat.mul_one]; show 1 = min 1 (l.length + 1 - k); omega) ?_ (by simp [Value.oneCell']) ?_ (sl_den rfl ?_ ?_ ?_) rfl))
    · ((try simp only [evE, liE, lO, lU, snd]); (try simp only [cmE])); simp only [hn1, hn1', hk1, hk1', ite_self]; omega
    · simp only [List.size_toArray, List.length_append, List.length_take, List.length_drop, hcl, hdl, List.length_cons, List.length_nil]; omega
    · rw [Mem.upd_upd]
      refine .env (by (try simp only [liE, lO, lU, snd, aN]); rfl) (.retL rfl fun gd => ⟨g, cq, ?_, ⟨by rw [intsL_len, insS_len _ _ _ hk, Nat.mul_one], .inr ⟨g, _, rfl, Mem.upd_same .., hcn, hc, ?_, ?_⟩⟩, fun b hb hb' => Mem.upd_other _ _ hb, .inl rfl⟩)
      · show Value.slice ((some (⟨g, 0, none⟩ : Addr)).map fun a => a.add (if (cq : Int) = 0 then (0 : Int) else 0).toNat) (ar .add .i64 (l.length : Int) ((1 : Nat) : Int)).toNat ((cq : Int)).toNat = _
        rw [ite_self, hn1', Int.toNat_natCast, Int.toNat_natCast]
        show Value.slice (some ((⟨g, 0, none⟩ : Addr).add 0)) _ _ = _
        rw [addr_add]; rfl
      · rw [Nat.mul_one, List.size_toArray]; exact hC.1.trans hcl
      · rw [Nat.mul_one]; exact hC.2
    · exact oK
    · exact nK
    · exact cK
end Go.Proofs.YtkhcfbdjmpodbaaDoor
