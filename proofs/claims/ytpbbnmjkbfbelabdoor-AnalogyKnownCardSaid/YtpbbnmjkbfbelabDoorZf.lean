/- Chapter 30: contracts told at given values. -/
import Derived.Test.YtpbbnmjkbfbelabDoorZa
set_option linter.unusedSimpArgs false
set_option linter.unusedVariables false
namespace Go.Sy
open Go Go.RowKit
def wokw (w : List Snd) : Bool := w.all fun s => decide (s.1 < 4294967296) && decide (s.2 < 4294967296)
theorem wok_of1 {w : List Snd} (h : wokw w = true) : Wok w := fun s hs => by
  have := List.all_eq_true.1 h s hs
  rw [Bool.and_eq_true] at this
  exact ⟨of_decide_eq_true this.1, of_decide_eq_true this.2⟩
theorem fc {α : Type} {P : α → Prop} {a : α} {l : List α} (h : P a) (k : ∀ x ∈ l, P x) : ∀ x ∈ a :: l, P x := fun x hx => by
  rcases List.mem_cons.1 hx with rfl | hx
  · exact h
  · exact k x hx
theorem fn {α : Type} {P : α → Prop} : ∀ x ∈ ([] : List α), P x := fun x hx => by cases hx
theorem cells0 {V : Mv} {p : Option Addr} : Cells V p [] := fun i x h => by simp at h
def wn : WD := ⟨none, 0, []⟩
theorem wok (b : Addr) {n : Nat} {l : List Snd} (h : Nat.ble l.length n = true) : (⟨some b, n, l⟩ : WD).ok := ⟨Nat.ble_eq.mp h, nofun⟩
theorem wnok : wn.ok := ⟨Nat.le_refl _, fun _ => rfl⟩
theorem RowW.le' {m m' : Mem} {et : TypeId} {q : Option Addr} {cap : Nat} {w : List Snd} (h : RowW m et q cap w) (hle : m.le m') : RowW m' et q cap w := h.keep fun _ hb => hle.keep hb
end Go.Sy
namespace Go.Proofs.YtpbbnmjkbfbelabDoor
open Go Go.Sy Go.RowKit
theorem spell_is (bs : List UInt8) (w : List Snd) (n : Nat) (h : spellW bs = w) (hn : w.length = n) (hl : Nat.ble bs.length 100 = true) :
    FnM Tryd.prog n_law30_spell [strV bs] (fun _ => True) fun v mq _ => ∃ q cq, v = slv q n cq ∧ RowW mq 46 q cq w := by
  rw [Nat.ble_eq] at hl
  have := c_spell bs (by omega)
  rw [h, hn] at this
  exact this
theorem pair_is (bs cs : List UInt8) (w x : List Snd) (n k : Nat) (h : spellW bs = w) (hn : w.length = n) (h' : spellW cs = x) (hk : x.length = k) (hl : (Nat.ble bs.length 100 && Nat.ble cs.length 100) = true) :
    FnM Tryd.prog n_law30_pair [strV bs, strV cs] (fun _ => True) fun v mq _ => ∃ p cp q cq, v = .agg #[slv p n cp, slv q k cq] ∧ RowW mq 46 p cp w ∧ RowW mq 46 q cq x := by
  rw [Bool.and_eq_true, Nat.ble_eq, Nat.ble_eq] at hl
  have := c_pair bs cs (by omega) (by omega)
  rw [h, h', hn, hk] at this
  exact this
theorem solve_is (A B C : WD) (out : List Snd) (n : Nat) (x : Bool) (e : Int) (h : oneW A.w B.w C.w (solveW A.w B.w C.w) = (out, x, e)) (hn : out.length = n) (hw : (wokw A.w && wokw B.w && wokw C.w) = true) (oa : A.ok) (ob : B.ok) (oc : C.ok) :
    FnM Tryd.prog n_analogy_Solve [A.v, B.v, C.v] (fun R => WordAt R A.p A.w ∧ WordAt R B.p B.w ∧ WordAt R C.p C.w ∧ VarsOk R) fun v mq _ => ∃ q cq, v = .tuple #[slv q n cq, .bool x, .int .i64 e] ∧ RowW mq 46 q cq out := by
  rw [Bool.and_eq_true, Bool.and_eq_true] at hw
  have := c_Solve A B C (wok_of1 hw.1.1) (wok_of1 hw.1.2) (wok_of1 hw.2) oa ob oc
  rw [h] at this
  subst hn
  exact this
theorem front_is (A B C : WD) (out : List Snd) (n : Nat) (x : Bool) (e : Int) (h : oneW A.w B.w C.w (frontW A.w B.w C.w) = (out, x, e)) (hn : out.length = n) (hw : (wokw A.w && wokw B.w && wokw C.w) = true) (oa : A.ok) (ob : B.ok) (oc : C.ok) :
    FnM Tryd.prog n_analogy_Front [A.v, B.v, C.v] (fun R => WordAt R A.p A.w ∧ WordAt R B.p B.w ∧ WordAt R C.p C.w ∧ VarsOk R) fun v mq _ => ∃ q cq, v = .tuple #[slv q n cq, .bool x, .int .i64 e] ∧ RowW mq 46 q cq out := by
  rw [Bool.and_eq_true, Bool.and_eq_true] at hw
  have := c_Front A B C (wok_of1 hw.1.1) (wok_of1 hw.1.2) (wok_of1 hw.2) oa ob oc
  rw [h] at this
  subst hn
  exact this
theorem models_okB {ms : List MD} (h : ms.all (fun x => wokw x.a.w && wokw x.b.w) = true) (ho : ∀ x ∈ ms, x.a.ok ∧ x.b.ok) : ModelsOk ms := fun x hx => by
  have := List.all_eq_true.1 h x hx
  rw [Bool.and_eq_true] at this
  exact ⟨wok_of1 this.1, wok_of1 this.2, (ho x hx).1, (ho x hx).2⟩
theorem extend_is (p : Option Addr) (cp : Nat) (ms : List MD) (N : Nat) (hN : ms.length = N) (C : WD) (out : List Snd) (n : Nat) (x e : Int) (h : extW ms C.w = (out, x, e)) (hn : out.length = n) (hm : ms.all (fun x => wokw x.a.w && wokw x.b.w) = true) (ho : ∀ x ∈ ms, x.a.ok ∧ x.b.ok) (hw : wokw C.w = true) (oc : C.ok) (hl : Nat.ble N 1000 = true) :
    FnM Tryd.prog n_analogy_Extend [slv p N cp, C.v] (fun R => ModelsAt R p ms ∧ WordAt R C.p C.w ∧ VarsOk R) fun v mq _ => ∃ q cq, v = .tuple #[slv q n cq, .int .i64 x, .int .i64 e] ∧ RowW mq 46 q cq out := by
  subst hN
  rw [Nat.ble_eq] at hl
  have := c_Extend p cp ms C (models_okB hm ho) (wok_of1 hw) oc (by omega)
  rw [h] at this
  subst hn
  exact this
theorem explain_is (p : Option Addr) (cp : Nat) (ms : List MD) (N : Nat) (hN : ms.length = N) (C D : WD) (a : Int) (x : Bool) (e : Int) (h : explW ms C.w D.w = (a, x, e)) (hm : ms.all (fun x => wokw x.a.w && wokw x.b.w) = true) (ho : ∀ x ∈ ms, x.a.ok ∧ x.b.ok) (hw : (wokw C.w && wokw D.w) = true) (oc : C.ok) (hl : Nat.ble N 1000 = true) :
    RetP Tryd.prog n_analogy_Explain [slv p N cp, C.v, D.v] (fun R => ModelsAt R p ms ∧ WordAt R C.p C.w ∧ WordAt R D.p D.w ∧ VarsOk R) (.tuple #[.int .i64 a, .bool x, .int .i64 e]) := by
  subst hN
  rw [Nat.ble_eq] at hl
  rw [Bool.and_eq_true] at hw
  have := c_Explain p cp ms C D (models_okB hm ho) (wok_of1 hw.1) (wok_of1 hw.2) oc (by omega)
  rw [h] at this
  exact this
theorem count_is (p : Option Addr) (cp : Nat) (ms : List MD) (N : Nat) (hN : ms.length = N) (C D : WD) (a e : Int) (h : countW ms C.w D.w = (a, e)) (hm : ms.all (fun x => wokw x.a.w && wokw x.b.w) = true) (ho : ∀ x ∈ ms, x.a.ok ∧ x.b.ok) (hw : (wokw C.w && wokw D.w) = true) (oc : C.ok) (hl : Nat.ble N 1000 = true) :
    RetP Tryd.prog n_analogy_Count [slv p N cp, C.v, D.v] (fun R => ModelsAt R p ms ∧ WordAt R C.p C.w ∧ WordAt R D.p D.w ∧ VarsOk R) (.tuple #[.int .i64 a, .int .i64 e]) := by
  subst hN
  rw [Nat.ble_eq] at hl
  rw [Bool.and_eq_true] at hw
  have := c_Count p cp ms C D (models_okB hm ho) (wok_of1 hw.1) (wok_of1 hw.2) oc (by omega)
  rw [h] at this
  exact this
theorem cost_is (p : Option Addr) (cp : Nat) (ms : List MD) (N : Nat) (hN : ms.length = N) (F G A : WD) (gap a e : Int) (h : costM [] gap ms F.w G.w A.w = (a, e)) (hm : ms.all (fun x => wokw x.a.w && wokw x.b.w) = true) (ho : ∀ x ∈ ms, x.a.ok ∧ x.b.ok) (hw : (wokw F.w && wokw G.w && wokw A.w) = true) (of : F.ok) (hl : (Nat.ble N 1000 && Nat.ble G.w.length 1000) = true) :
    RetP Tryd.prog n_analogy_Cost [slv p N cp, F.v, G.v, A.v, costs none 0 0 gap] (fun R => ModelsAt R p ms ∧ WordAt R F.p F.w ∧ WordAt R G.p G.w ∧ WordAt R A.p A.w ∧ VarsAll R) (.tuple #[.int .i64 a, .int .i64 e]) := by
  subst hN
  rw [Bool.and_eq_true, Nat.ble_eq, Nat.ble_eq] at hl
  rw [Bool.and_eq_true, Bool.and_eq_true] at hw
  have := c_costM p none cp 0 ms F G A [] gap (models_okB hm ho) (wok_of1 hw.1.1) (wok_of1 hw.1.2) (wok_of1 hw.2) of (by omega) (by omega)
  rw [h] at this
  exact this.mono (fun R h => ⟨h.1, h.2.1, h.2.2.1, h.2.2.2.1, cells0, h.2.2.2.2⟩) fun _ _ _ h => h
def LineIn (m : Mem) (r : LD) : Prop := RowF m r.p r.cap r.fs ∧ ∀ f ∈ r.fs, RowW m 46 f.w.p f.w.cap f.w.w
theorem LineIn.le' {m m' : Mem} {r : LD} (h : LineIn m r) (hle : m.le m') : LineIn m' r := ⟨h.1.keepT fun b cur _ hb _ => hle.keep (by rw [hb]; simp), fun f hf => (h.2 f hf).le' hle⟩
theorem LineIn.reads {m : Mem} {r : LD} (h : LineIn m r) {c : Cx} {L : List Nat} {ρ : Env} {blks : List Blk} (g : Sy.Good c L m) : FormsAt (vw c L ρ blks m) r.p r.fs := ⟨h.1.reads g, fun f hf => (h.2 f hf).reads g⟩
def LineOk (r : LD) : Prop := (r.fs.length ≤ r.cap ∧ (r.p = none → r.cap = 0)) ∧ ∀ f ∈ r.fs, f.w.ok
theorem LineIn.ok {m : Mem} {r : LD} (h : LineIn m r) : LineOk r := ⟨⟨h.1.le, h.1.nil⟩, fun f hf => (h.2 f hf).ok⟩
theorem _root_.Go.Sy.TabIn.le' {m m' : Mem} {q : Option Addr} {cq : Nat} {rows : List LD} (h : TabIn m q cq rows) (hle : m.le m') : TabIn m' q cq rows := h.keepT (fun b cur hb => hle.keep (by rw [hb]; simp)) (fun b cur hb => hle.keep (by rw [hb]; simp)) fun _ _ b cur _ hb _ => hle.keep (by rw [hb]; simp)
theorem forms1 {fs : List FD} {b1 : Bool} {w1 : List Snd} (h : fs.map FD.data = [(b1, w1)]) : ∃ p1 c1, fs = [⟨b1, ⟨p1, c1, w1⟩⟩] := by
  match fs, h with
  | [⟨x1, ⟨p1, c1, y1⟩⟩], h =>
    simp only [List.map_cons, List.map_nil, FD.data, List.cons.injEq, Prod.mk.injEq, and_true] at h
    obtain ⟨rfl, rfl⟩ := h
    exact ⟨p1, c1, rfl⟩
  | [], h => simp at h
  | _ :: _ :: _, h => simp at h
theorem forms_cons {fs : List FD} {b1 : Bool} {w1 : List Snd} {l : List (Bool × List Snd)} (h : fs.map FD.data = (b1, w1) :: l) : ∃ p1 c1 fs', fs = ⟨b1, ⟨p1, c1, w1⟩⟩ :: fs' ∧ fs'.map FD.data = l := by
  match fs, h with
  | ⟨x1, ⟨p1, c1, y1⟩⟩ :: fs', h =>
    simp only [List.map_cons, FD.data, List.cons.injEq, Prod.mk.injEq] at h
    obtain ⟨⟨rfl, rfl⟩, h2⟩ := h
    exact ⟨p1, c1, fs', rfl, h2⟩
  | [], h => simp at h
theorem row1_is (p : Option Addr) (cp : Nat) (a : List UInt8) (b1 : Bool) (w1 : List Snd) (h : [a].map rowB = [(b1, w1)]) (hs : Nat.ble a.length 100 = true) :
    FnM Tryd.prog n_law30_row [slv p 1 cp] (fun R => Cells R p ([a].map strV)) fun v mq _ => ∃ q cq p1 c1, v = slv q 1 cq ∧ LineIn mq ⟨q, cq, [⟨b1, ⟨p1, c1, w1⟩⟩]⟩ := by
  rw [Nat.ble_eq] at hs
  have := c_row p cp [a] (by simp) (by simp; omega)
  rw [h] at this
  refine FnM.mono this (fun _ h => h) ?_
  rintro v mq _ ⟨q, cq, fs, rfl, hd, hF, hW⟩
  obtain ⟨p1, c1, rfl⟩ := forms1 hd
  exact ⟨q, cq, p1, c1, rfl, hF, hW⟩
theorem row2_is (p : Option Addr) (cp : Nat) (a b : List UInt8) (b1 b2 : Bool) (w1 w2 : List Snd) (h : [a, b].map rowB = [(b1, w1), (b2, w2)]) (hs : (Nat.ble a.length 100 && Nat.ble b.length 100) = true) :
    FnM Tryd.prog n_law30_row [slv p 2 cp] (fun R => Cells R p ([a, b].map strV)) fun v mq _ => ∃ q cq p1 c1 p2 c2, v = slv q 2 cq ∧ LineIn mq ⟨q, cq, [⟨b1, ⟨p1, c1, w1⟩⟩, ⟨b2, ⟨p2, c2, w2⟩⟩]⟩ := by
  rw [Bool.and_eq_true, Nat.ble_eq, Nat.ble_eq] at hs
  have := c_row p cp [a, b] (by simp) (by simp; omega)
  rw [h] at this
  refine FnM.mono this (fun _ h => h) ?_
  rintro v mq _ ⟨q, cq, fs, rfl, hd, hF, hW⟩
  obtain ⟨p1, c1, f1, rfl, hd1⟩ := forms_cons hd
  obtain ⟨p2, c2, rfl⟩ := forms1 hd1
  exact ⟨q, cq, p1, c1, p2, c2, rfl, hF, hW⟩
theorem row3_is (p : Option Addr) (cp : Nat) (a b d : List UInt8) (b1 b2 b3 : Bool) (w1 w2 w3 : List Snd) (h : [a, b, d].map rowB = [(b1, w1), (b2, w2), (b3, w3)]) (hs : (Nat.ble a.length 100 && Nat.ble b.length 100 && Nat.ble d.length 100) = true) :
    FnM Tryd.prog n_law30_row [slv p 3 cp] (fun R => Cells R p ([a, b, d].map strV)) fun v mq _ => ∃ q cq p1 c1 p2 c2 p3 c3, v = slv q 3 cq ∧ LineIn mq ⟨q, cq, [⟨b1, ⟨p1, c1, w1⟩⟩, ⟨b2, ⟨p2, c2, w2⟩⟩, ⟨b3, ⟨p3, c3, w3⟩⟩]⟩ := by
  rw [Bool.and_eq_true, Bool.and_eq_true, Nat.ble_eq, Nat.ble_eq, Nat.ble_eq] at hs
  have := c_row p cp [a, b, d] (by simp) (by simp; omega)
  rw [h] at this
  refine FnM.mono this (fun _ h => h) ?_
  rintro v mq _ ⟨q, cq, fs, rfl, hd, hF, hW⟩
  obtain ⟨p1, c1, f1, rfl, hd1⟩ := forms_cons hd
  obtain ⟨p2, c2, f2, rfl, hd2⟩ := forms_cons hd1
  obtain ⟨p3, c3, rfl⟩ := forms1 hd2
  exact ⟨q, cq, p1, c1, p2, c2, p3, c3, rfl, hF, hW⟩
theorem level_is (p : Option Addr) (cp : Nat) (t : List LD) (rw cl : Int) (out : List (List (Bool × List Snd))) (n : Nat) (e : Int) (h : levR t rw cl = (out, e)) (hn : out.length = n) (hb : t.all (fun r => Nat.ble r.fs.length 100 && r.fs.all fun f => wokw f.w.w) = true) (hl : Nat.ble t.length 100 = true) (ho : ∀ r ∈ t, LineOk r) :
    FnM Tryd.prog n_analogy_Level [slv p t.length cp, .int .i64 rw, .int .i64 cl] (fun R => TableAt R p t) fun v mq _ => ∃ q cq rows, v = .tuple #[slv q n cq, .int .i64 e] ∧ rows.map LD.data = out ∧ TabIn mq q cq rows := by
  rw [Nat.ble_eq] at hl
  have hb' : ∀ r ∈ t, r.fs.length ≤ 100 ∧ ∀ f ∈ r.fs, Wok f.w.w := fun r hr => by
    have := List.all_eq_true.1 hb r hr
    rw [Bool.and_eq_true, Nat.ble_eq] at this
    exact ⟨this.1, fun f hf => wok_of1 (List.all_eq_true.1 this.2 f hf)⟩
  have := c_Level p cp t rw cl (by omega) (fun r hr => ⟨by have := (hb' r hr).1; omega, (ho r hr).1⟩) (fun r hr f hf => ⟨(hb' r hr).2 f hf, (ho r hr).2 f hf⟩)
  rw [h] at this
  refine FnM.mono this (fun _ h => h) ?_
  rintro v mq _ ⟨q, cq, rows, rfl, h1, h2⟩
  have hl' := congrArg List.length h1
  rw [List.length_map] at hl'
  exact ⟨q, cq, rows, by rw [← hn]; rw [show (out, e).1.length = out.length from rfl] at hl'; rw [hl'], h1, h2⟩
end Go.Proofs.YtpbbnmjkbfbelabDoor
namespace Go.Sy
open Go Go.RowKit
section
variable {P : Program} {c : Cx} {L : List Nat} {ρ : Env} {blks : List Blk} {m : Mem} {R : Value → HW → Prop} {Dn : Nat → List U → HW → Prop} {A : List (List U → HW → Prop)}
theorem DenM.loadSlit {i : Nat} {a o : Int} {N : IT} {k : Tree} (xs : List Value) (j : Nat) (p : Option Addr) (n cap : Nat) (hx : xs[j]? = some (slv p n cap)) (hw : Good c L m → Cells (vw c L ρ blks m) (ρ.ptr i) xs) (hk : DenM P R Dn k L (ρ ++ [.p p, .i n, .i cap]) c m A) (ho : o = (j : Int)) (ha : decide (a < N.eval ρ) = true) :
    DenM P R Dn (.chk (.pick (.cmp .lss (.lit a) N) (.some i) (.lit false)) (.load i (.lit o) [.sl] blks k)) L ρ c m A := fun g => by
  obtain ⟨b, o', hpe⟩ := (hw g).some (i := j) (List.getElem?_eq_some_iff.1 hx).1
  have ha := of_decide_eq_true ha
  have h1 : (BT.pick (.cmp .lss (.lit a) N) (.some i) (.lit false)).eval ρ = true := by
    simp only [BT.eval, IT.eval, hpe, cm, pick_and, Option.isSome_some, Bool.and_true]; exact decide_eq_true ha
  exact DenM.chk h1 (.loadS xs j p n cap (show (IT.lit o).eval ρ = _ from ho) hx hw hk) g
theorem DenM.loadSlit2 {i : Nat} {a o : Int} {N : IT} {k : Tree} (xs : List Value) (j : Nat) (p : Option Addr) (n cap : Nat) (hx : xs[j]? = some (slv p n cap)) (hw : Good c L m → Cells (vw c L ρ blks m) (ρ.ptr i) xs) (hk : DenM P R Dn k L (ρ ++ [.p p, .i n, .i cap]) c m A) (ho : o = (j : Int)) (ha : decide (a < N.eval ρ) = true) :
    DenM P R Dn (.chk (.pick (.cmp .lss (.lit a) N) (.some i) (.lit false)) (.chk (.some i) (.load i (.lit o) [.sl] blks k))) L ρ c m A := fun g => by
  obtain ⟨b, o', hpe⟩ := (hw g).some (i := j) (List.getElem?_eq_some_iff.1 hx).1
  have ha := of_decide_eq_true ha
  have h1 : (BT.pick (.cmp .lss (.lit a) N) (.some i) (.lit false)).eval ρ = true := by
    simp only [BT.eval, IT.eval, hpe, cm, pick_and, Option.isSome_some, Bool.and_true]; exact decide_eq_true ha
  have h2 : (BT.some i).eval ρ = true := by simp only [BT.eval, hpe]; rfl
  exact DenM.chk h1 (.chk h2 (.loadS xs j p n cap (show (IT.lit o).eval ρ = _ from ho) hx hw hk)) g
theorem DenM.loadF0 {i : Nat} {N : IT} {k : Tree} (l : List FD) (x : FD) (hx : l[0]? = some x) (hw : Good c L m → Cells (vw c L ρ blks m) (ρ.ptr i) (fcells l)) (hk : DenM P R Dn k L (ρ ++ [.b x.has, .p x.w.p, .i x.w.w.length, .i x.w.cap]) c m A) (ha : decide (0 < N.eval ρ) = true) :
    DenM P R Dn (.chk (.pick (.cmp .lss (.lit 0) N) (.some i) (.lit false)) (.load i (.lit 0) [.bool, .sl] blks k)) L ρ c m A := fun g => by
  obtain ⟨hj, rfl⟩ := List.getElem?_eq_some_iff.1 hx
  have h := fcells_at l 0 hj
  obtain ⟨b, o', hpe⟩ := (hw g).some (i := 0) (by rw [fcells_len]; omega)
  have ha := of_decide_eq_true ha
  have h1 : (BT.pick (.cmp .lss (.lit 0) N) (.some i) (.lit false)).eval ρ = true := by
    simp only [BT.eval, IT.eval, hpe, cm, pick_and, Option.isSome_some, Bool.and_true]; exact decide_eq_true ha
  refine DenM.chk h1 (.loadC [.b l[0].has, .p l[0].w.p, .i l[0].w.w.length, .i l[0].w.cap] (ρ.ptr i) (fcells l) 0 rfl rfl rfl hw (by rw [fcells_len]; omega) (fun q v hv => ?_) hk) g
  rw [form_at] at hv
  match q, hv with
  | 0, hv => simp at hv; rw [← hv]; exact h.1
  | 1, hv => simp at hv; rw [← hv]; exact h.2
  | q + 2, hv => simp at hv
end
end Go.Sy
namespace Go.Proofs.YtpbbnmjkbfbelabDoor
open Go Go.Sy Go.RowKit
theorem lines2 {t : List LD} {d1 d2 : List (Bool × List Snd)} (h : t.map LD.data = [d1, d2]) : ∃ q1 c1 f1 q2 c2 f2, t = [⟨q1, c1, f1⟩, ⟨q2, c2, f2⟩] ∧ f1.map FD.data = d1 ∧ f2.map FD.data = d2 := by
  match t, h with
  | [⟨q1, c1, f1⟩, ⟨q2, c2, f2⟩], h =>
    simp only [List.map_cons, List.map_nil, LD.data, List.cons.injEq, and_true] at h
    exact ⟨q1, c1, f1, q2, c2, f2, rfl, h.1, h.2⟩
  | [], h => simp at h
  | [_], h => simp at h
  | _ :: _ :: _ :: _, h => simp at h
end Go.Proofs.YtpbbnmjkbfbelabDoor
