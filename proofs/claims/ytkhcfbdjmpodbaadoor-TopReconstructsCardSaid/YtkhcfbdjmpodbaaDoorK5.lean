/- The example of layer 24; forms; rows of cells that are written. -/
import Derived.Test.YtkhcfbdjmpodbaaDoorK4
import Derived.Test.YtkhcfbdjmpodbaaDoorTk
set_option linter.unusedSimpArgs false
set_option linter.unusedVariables false
namespace Go.Sy
open Go Go.RowKit Go.Proofs.YtkhcfbdjmpodbaaDoor
structure FD where
  has : Bool
  w : WD
def fcells (l : List FD) : List Value := l.flatMap fun x => [.bool x.has, x.w.v]
def FormsAt (R : Mv) (q : Option Addr) (l : List FD) : Prop := Cells R q (fcells l) ∧ ∀ x ∈ l, WordAt R x.w.p x.w.w
theorem FormsAt.mono {R S : Mv} {q : Option Addr} {l : List FD} (h : FormsAt R q l) (hle : R.le S) : FormsAt S q l := ⟨h.1.mono hle, fun x hx => (h.2 x hx).mono hle⟩
theorem fcells_len (l : List FD) : (fcells l).length = l.length * 2 := by
  induction l with
  | nil => rfl
  | cons s w ih => simp only [fcells, List.flatMap_cons, List.length_append, List.length_cons] at *; rw [ih]; simp; omega
theorem fcells_at (w : List FD) (j : Nat) (h : j < w.length) : (fcells w)[j * 2]? = some (.bool w[j].has) ∧ (fcells w)[j * 2 + 1]? = some w[j].w.v := by
  induction w generalizing j with
  | nil => simp at h
  | cons s w ih =>
    cases j with
    | zero => exact ⟨rfl, rfl⟩
    | succ j =>
      have := ih j (by simpa using h)
      simp only [fcells, List.flatMap_cons, List.cons_append, List.nil_append] at *
      rw [show (j + 1) * 2 = j * 2 + 2 by omega, show j * 2 + 2 + 1 = (j * 2 + 1) + 2 by omega]
      simpa using this
theorem form_at (ρ : Env) (L : List Nat) (x : FD) : SV.dens L (ρ ++ [.b x.has, .p x.w.p, .i x.w.w.length, .i x.w.cap]) (Sh.freshs [.bool, .sl] ρ.length).1 = [.bool x.has, x.w.v] := by
  have e1 := getElem_env ρ [.b x.has, .p x.w.p, .i x.w.w.length, .i x.w.cap] 0
  rw [Nat.add_zero] at e1
  have e2 := sl_at (ρ ++ [.b x.has]) L x.w.p x.w.w.length x.w.cap []
  rw [List.append_assoc] at e2
  simp only [List.cons_append, List.nil_append, List.length_append, List.length_cons, List.length_nil] at e2
  simp only [Sh.freshs, Sh.fresh, SV.dens, SV.den, BT.eval, Env.bool] at e1 e2 ⊢
  rw [e1, e2]; rfl
theorem ccells_set (w : List CE) (j : Nat) (h : j < w.length) (x : CE) : putAt (ccells w) (j * 3) (c3 x) = ccells (w.set j x) := by
  induction w generalizing j with
  | nil => simp at h
  | cons s w ih =>
    cases j with
    | zero => simp [putAt, ccells, c3]
    | succ j =>
      have := ih j (by simpa using h)
      rw [List.set_cons_succ]
      show _ = c3 s ++ ccells (w.set j x)
      rw [← this]
      have e : (j + 1) * 3 = j * 3 + 3 := by omega
      unfold putAt
      show List.take ((j + 1) * 3) (c3 s ++ ccells w) ++ _ ++ List.drop ((j + 1) * 3 + _) (c3 s ++ ccells w) = _
      rw [e]
      simp [c3, List.take_succ_cons]
section
variable {P : Program} {c : Cx} {L : List Nat} {ρ : Env} {blks : List Blk} {m : Mem} {R : Value → HW → Prop} {Dn : Nat → List U → HW → Prop} {A : List (List U → HW → Prop)}
theorem DenM.loadFD {i : Nat} {I len : IT} {k : Tree} (l : List FD) (j : Nat) (hj : j < l.length) (hw : Good c L m → Cells (vw c L ρ blks m) (ρ.ptr i) (fcells l)) (hk : DenM P R Dn k L (ρ ++ [.b l[j].has, .p l[j].w.p, .i l[j].w.w.length, .i l[j].w.cap]) c m A) (hI : I.eval ρ = (j : Int) := by rfl) (hn : len.eval ρ = (l.length : Int) := by rfl) :
    DenM P R Dn (.chk (.pick (.cmp .geq I (.lit 0)) (.pick (.cmp .lss I len) (.some i) (.lit false)) (.lit false)) (.load i (.off I 2 (.lit 0)) [.bool, .sl] blks k)) L ρ c m A := by
  have h := fcells_at l j hj
  refine .elem [.b l[j].has, .p l[j].w.p, .i l[j].w.w.length, .i l[j].w.cap] (fcells l) j l.length hI hn hj rfl hw (by rw [fcells_len]; omega) (fun q v hv => ?_) hk
  rw [form_at] at hv
  match q, hv with
  | 0, hv => simp at hv; rw [← hv]; exact h.1
  | 1, hv => simp at hv; rw [← hv]; exact h.2
  | q + 2, hv => simp at hv
theorem DenM.loadHas {i : Nat} {I len : IT} {k : Tree} (l : List FD) (j : Nat) (hj : j < l.length) (hw : Good c L m → Cells (vw c L ρ blks m) (ρ.ptr i) (fcells l)) (hk : DenM P R Dn k L (ρ ++ [.b l[j].has]) c m A) (hI : I.eval ρ = (j : Int) := by rfl) (hn : len.eval ρ = (l.length : Int) := by rfl) :
    DenM P R Dn (.chk (.pick (.cmp .geq I (.lit 0)) (.pick (.cmp .lss I len) (.some i) (.lit false)) (.lit false)) (.chk (.pick (.cmp .geq (.off I 2 (.lit 0)) (.lit 0)) (.some i) (.lit false)) (.load i (.off I 2 (.lit 0)) [.bool] blks k))) L ρ c m A := fun g => by
  have h := fcells_at l j hj
  obtain ⟨b, o, hpe⟩ := (hw g).some (i := j * 2) (by rw [fcells_len]; omega)
  have h1 : (BT.pick (.cmp .geq I (.lit 0)) (.pick (.cmp .lss I len) (.some i) (.lit false)) (.lit false)).eval ρ = true := by
    simp only [BT.eval, IT.eval, hI, hn, hpe, cm, pick_and]; simp; omega
  have h2 : (BT.pick (.cmp .geq (.off I 2 (.lit 0)) (.lit 0)) (.some i) (.lit false)).eval ρ = true := by
    simp only [BT.eval, IT.eval, hI, hpe, cm, pick_and]; simp; omega
  refine DenM.chk h1 (.chk h2 (.load1 (.bool l[j].has) (ρ.ptr i) (fcells l) (j * 2) rfl (by simp only [IT.eval, hI]; simp) hw h.1 hk rfl ?_)) g
  have e1 := getElem_env ρ [.b l[j].has] 0
  rw [Nat.add_zero] at e1
  simp only [Sh.freshs, Sh.fresh, SV.dens, SV.den, BT.eval, Env.bool, lU]
  rw [e1]; rfl
theorem DenM.loadFW {i : Nat} {I len : IT} {k : Tree} (l : List FD) (j : Nat) (hj : j < l.length) (hw : Good c L m → Cells (vw c L ρ blks m) (ρ.ptr i) (fcells l)) (hk : DenM P R Dn k L (ρ ++ [.p l[j].w.p, .i l[j].w.w.length, .i l[j].w.cap]) c m A) (hI : I.eval ρ = (j : Int) := by rfl) (hn : len.eval ρ = (l.length : Int) := by rfl) :
    DenM P R Dn (.chk (.pick (.cmp .geq I (.lit 0)) (.pick (.cmp .lss I len) (.some i) (.lit false)) (.lit false)) (.chk (.pick (.cmp .geq (.off I 2 (.lit 0)) (.lit 0)) (.some i) (.lit false)) (.load i (.off (.lit 1) 1 (.off I 2 (.lit 0))) [.sl] blks k))) L ρ c m A := fun g => by
  have h := fcells_at l j hj
  obtain ⟨b, o, hpe⟩ := (hw g).some (i := j * 2) (by rw [fcells_len]; omega)
  have h1 : (BT.pick (.cmp .geq I (.lit 0)) (.pick (.cmp .lss I len) (.some i) (.lit false)) (.lit false)).eval ρ = true := by
    simp only [BT.eval, IT.eval, hI, hn, hpe, cm, pick_and]; simp; omega
  have h2 : (BT.pick (.cmp .geq (.off I 2 (.lit 0)) (.lit 0)) (.some i) (.lit false)).eval ρ = true := by
    simp only [BT.eval, IT.eval, hI, hpe, cm, pick_and]; simp; omega
  exact DenM.chk h1 (.chk h2 (.loadSx (fcells l) (j * 2 + 1) l[j].w.p l[j].w.w.length l[j].w.cap (by simp only [IT.eval, hI]; simp <;> omega) h.2 hw hk)) g
theorem DenM.chkS {i : Nat} {len : IT} {k : Tree} {xs : List Value} {n : Nat} (hn : 0 < n) (hc : Good c L m → Cells (vw c L ρ [] m) (ρ.ptr i) xs) (hl : len.eval ρ = (n : Int)) (hx : 0 < xs.length) (hk : DenM P R Dn k L ρ c m A) : DenM P R Dn (.chk (.pick (.cmp .lss (.lit 0) len) (.some i) (.lit false)) k) L ρ c m A := fun g => by
  obtain ⟨b, o, hpe⟩ := (hc g).some hx
  refine (DenM.chk ?_ hk) g
  simp only [BT.eval, IT.eval, hl, hpe, cm, pick_and]; simp; omega
theorem DenM.storeCE {i : Nat} {I len : IT} {a b d : SV} {k : Tree} {e : TypeId} {q : Option Addr} {cap : Nat} {w : List CE} (j : Nat) (v : CE) (hj : j < w.length) (hR : Row m e 3 q cap w.length (ccells w)) (hv : SV.dens L ρ [a, b, d] = c3 v) (hp : ρ.ptr i = q) (hI : I.eval ρ = (j : Int)) (hn : len.eval ρ = (w.length : Int))
    (hk : ∀ m' g, q = some ⟨g, 0, none⟩ → Row m' e 3 q cap w.length (ccells (w.set j v)) → (∀ b, b ≠ g → m' b = m b) → DenM P R Dn k L ρ c m' A) :
    DenM P R Dn (.chk (.pick (.cmp .geq I (.lit 0)) (.pick (.cmp .lss I len) (.some i) (.lit false)) (.lit false)) (.store false i (.off I 3 (.lit 0)) [a, b, d] blks k)) L ρ c m A := by
  rcases hR.2 with ⟨_, h, _⟩ | ⟨g, cur, hq, hg, h1, h2, h3, h4⟩
  · omega
  · subst hq
    have hput : putAt cur.toList (j * 3) (SV.dens L ρ [a, b, d]) = cur.toList.take (j * 3) ++ c3 v ++ cur.toList.drop (j * 3 + 3) := by
      unfold putAt
      rw [hv]; rfl
    refine .chk ?_ (.store g (j * 3) cur e rfl ?_ hg (by simp; omega) (hk _ g rfl ⟨by rw [ccells_len, List.length_set], .inr ⟨g, _, rfl, Mem.upd_same _ _ _, h1, h2, ?_, ?_⟩⟩ fun b hb => Mem.upd_other _ _ hb))
    · simp only [BT.eval, IT.eval, hI, hn, hp, cm, pick_and]; simp; omega
    · simp only [atAddr, hp, IT.eval, hI, Option.map_some, addr_add]
      rw [show ((0 : Int) + (j : Int) * ((3 : Nat) : Int)).toNat = j * 3 by omega]; simp
    · rw [hput]
      simp only [List.size_toArray, List.length_append, List.length_take, List.length_drop, Array.length_toList, show (c3 v).length = 3 from rfl]; omega
    · have hps := ccells_set w j hj v
      rw [← hps, ← h4, hput]
      exact put_take cur.toList (c3 v) (j * 3) (w.length * 3) (by simp [c3]; omega) (by simp; have := Nat.mul_le_mul_right 3 h1; omega)
end
theorem made_cells (n : Nat) : (Go.madeCells #[.int .i64 0, .int .u32 0, .int .u32 0] (n * 3)).toList = ccells (List.replicate n (0, (0, 0))) := by
  unfold Go.madeCells
  apply List.ext_getElem?
  intro i
  rw [Array.toList_map, List.getElem?_map]
  rcases Nat.lt_or_ge i (n * 3) with h | h
  · rw [Array.toList_range, List.getElem?_range h]
    have e : i = i / 3 * 3 + i % 3 := by omega
    have hr : i % 3 < 3 := Nat.mod_lt _ (by decide)
    have := ccells_at (List.replicate n ((0 : Int), ((0 : Nat), (0 : Nat)))) (j := i / 3) (by rw [List.length_replicate]; omega) (i % 3) hr
    rw [← e, List.getElem_replicate] at this
    rw [this]
    show some _ = _
    rcases (by omega : i % 3 = 0 ∨ i % 3 = 1 ∨ i % 3 = 2) with h3 | h3 | h3 <;> simp only [h3] <;> first | rfl | (simp only [List.size_toArray, List.length_cons, List.length_nil, h3]; rfl)
  · rw [Array.toList_range, List.getElem?_eq_none (by simpa using h), List.getElem?_eq_none (by rw [ccells_len, List.length_replicate]; omega)]; rfl
end Go.Sy
namespace Go.Proofs.YtkhcfbdjmpodbaaDoor
open Go Go.Sy Go.RowKit
def exT : List ND := [⟨-1, [114]⟩, ⟨0, [120]⟩, ⟨0, [121]⟩]
theorem ex_tree : treeE exT = 0 := by decide +kernel
theorem ex_word : wordR [(1, 0)] exT [] 1 [[(2, (1, 0)), (2, (1, 0))]] = ([(1, 0)], 0, 0) := by decide +kernel
theorem ex_leaves : (leavesL exT).length = 2 := by decide +kernel
theorem c_works24 : RetP Tryd.prog n_top_works24 [] (fun R => TabOk R) (.bool true) := by
  refine Fn.of S_top_works24 mx [] rfl rfl fun c hp => .alloc fun b0 => .alloc fun b1 => .alloc fun b2 => .alloc fun b3 => .alloc fun b4 => ?_
  have hW := c_Word (some ⟨b0, 0, none⟩) (some ⟨b3, 0, none⟩) (some ⟨b4, 0, none⟩) none 3 1 1 0 exT [⟨some ⟨b2, 0, none⟩, 2, [(2, (1, 0)), (2, (1, 0))]⟩] [(1, 0)] [] 1 ex_tree (by decide) (by decide) (by decide) (by decide) ⟨by decide, by decide⟩ (by decide)
    ⟨by simp, fun l hl => by rw [List.map_singleton, List.mem_singleton] at hl; subst hl; rw [ex_leaves]; rfl, fun l hl y hy => by
      rw [List.map_singleton, List.mem_singleton] at hl; subst hl
      have : y = (2, (1, 0)) := by simpa using hy
      subst this
      exact ⟨.inr (.inr ⟨rfl, by decide, by decide, by decide⟩), fun _ => by simp⟩⟩
  rw [show ([⟨some ⟨b2, 0, none⟩, 2, [(2, (1, 0)), (2, (1, 0))]⟩] : List CR).map (·.l) = [[(2, (1, 0)), (2, (1, 0))]] from rfl, ex_word] at hW
  refine .callE hW (fun g => ⟨g.cells (j := 0) rfl rfl rfl, ⟨g.cells (j := 3) rfl rfl rfl, fun r hr => ?_⟩, g.cells (j := 4) rfl rfl rfl, fun i x hx => by simp at hx, hp.mono g.R⟩) ?_
  · rw [List.mem_singleton] at hr; subst hr
    exact g.cells (j := 2) rfl rfl rfl
  rintro v mq m1 _ hle ⟨q, cq, rfl, hR⟩
  replace hR := Row.le hR hle
  refine ⟨[.p q, .i 1, .i cq, .i 0, .i 0], uOk_of rfl, rfl, .env (by (try simp only [liE, lO, lU, snd, aN]); rfl) (.yes rfl (.chk rfl (.yes rfl ?_)))⟩
  refine .chkS (n := 1) (xs := wcells [(1, 0)]) (by decide) (fun g => hR.reads g) rfl (by decide) ?_
  exact .loadAll [.i 1, .i 0] q (wcells [(1, 0)]) rfl (fun g => hR.reads g) (by decide) (.env (by (try simp only [liE, lO, lU, snd, aN]); rfl) (.ret rfl rfl))
end Go.Proofs.YtkhcfbdjmpodbaaDoor
