/- Chapter 30: models and rows out of strings. -/
import Derived.Test.YtpbbnmjkbfbelaaDoorJw
set_option linter.unusedSimpArgs false
set_option linter.unusedVariables false
namespace Go.Sy
open Go Go.RowKit
theorem run_eqstr {P : Program} {t ty : TypeId} {x y : Operand} {z : TypeId} {a b : ByteArray} {w : World} (h : P.underlying t = some .string) : (XOp.sem (.binOp .eql t x y z) ty [.string a, .string b]).run P w = .ok (.value (.bool (a.toList == b.toList))) w := by
  show (do pure (Next.value (← (do eqGuard .eql t x y (.string a) (.string b); binOp .eql t (.string a) (.string b)))) : Sem Next).run P w = _
  have h1 : (eqGuard .eql t x y (.string a) (.string b)).run P w = .ok () w := rfl
  have h2 : (binOp .eql t (.string a) (.string b)).run P w = .ok (.bool (a.toList == b.toList)) w := by
    rw [binOp_string_eql, Sem.run_pure]
  simp only [Sem.run_bind, h1, Result.andThen_ok, h2]
  rfl
theorem bytes_beq (a b : List UInt8) : ((⟨a.toArray⟩ : ByteArray).toList == (⟨b.toArray⟩ : ByteArray).toList) = decide (a = b) := by
  rw [ByteArray.toList_eq, ByteArray.toList_eq]
  show (a == b) = decide (a = b)
  rw [Bool.eq_iff_iff]; simp
section
variable {P : Program} {c : Cx} {L : List Nat} {ρ : Env} {blks : List Blk} {m : Mem} {R : Value → HW → Prop} {Dn : Nat → List U → HW → Prop} {A : List (List U → HW → Prop)}
theorem DenM.eqS {t ty : TypeId} {x y : Operand} {z : TypeId} {sv sv2 : SV} {k : Tree} (a b : List UInt8) (h : P.underlying t = some .string) (hk : DenM P R Dn k L (ρ ++ [.b (decide (a = b))]) c m A) (hv : sv.den L ρ = strV a := by rfl) (hv2 : sv2.den L ρ = strV b := by rfl) : DenM P R Dn (.extp ⟨.binOp .eql t x y z, ty, [sv, sv2]⟩ .bool blks k) L ρ c m A := .extp [.b (decide (a = b))] ⟨_, rfl⟩ (fun g w hw => by
  have e1 := getElem_env ρ [.b (decide (a = b))] 0
  rw [Nat.add_zero] at e1
  simp only [SV.dens, Sh.fresh, SV.den, BT.eval, Env.bool]
  rw [hv, hv2, e1]
  rw [show (XOp.sem (.binOp .eql t x y z) ty [strV a, strV b]).run P w = _ from run_eqstr h, bytes_beq]; rfl) hk
theorem DenM.loadStr {i : Nat} {I len : IT} {k : Tree} (l : List (List UInt8)) (j : Nat) (hj : j < l.length) (hc : Good c L m → Cells (vw c L ρ blks m) (ρ.ptr i) (l.map strV)) (hk : DenM P R Dn k L (ρ ++ [.v (strV l[j])]) c m A) (hI : I.eval ρ = (j : Int) := by rfl) (hn : len.eval ρ = (l.length : Int) := by rfl) :
    DenM P R Dn (.chk (.pick (.cmp .geq I (.lit 0)) (.pick (.cmp .lss I len) (.some i) (.lit false)) (.lit false)) (.load i (.off I 1 (.lit 0)) [.val] blks k)) L ρ c m A := by
  refine .elem [.v (strV l[j])] (l.map strV) j l.length hI hn hj rfl hc (by simpa using hj) (fun q v hv => ?_) hk
  have e1 := getElem_env ρ [.v (strV l[j])] 0
  rw [Nat.add_zero] at e1
  simp only [Sh.freshs, Sh.fresh, SV.dens, SV.den, Env.val, e1] at hv
  match q, hv with
  | 0, hv =>
    simp at hv
    rw [← hv, Nat.mul_one, Nat.add_zero, List.getElem?_map, List.getElem?_eq_getElem hj]; rfl
  | q + 1, hv => simp at hv
theorem agg2_fresh (ρ : Env) (L : List Nat) (p q : Option Addr) (n cp k cq : Nat) : ((Sh.agg [.sl, .sl]).fresh ρ.length).1.den L (ρ ++ [.p p, .i n, .i cp, .p q, .i k, .i cq]) = .agg #[slv p n cp, slv q k cq] := by
  have e1 := sl_at ρ L p n cp [.p q, .i k, .i cq]
  have e2 := sl_at (ρ ++ [.p p, .i n, .i cp]) L q k cq []
  rw [List.append_assoc] at e2
  simp only [List.cons_append, List.nil_append, List.length_append, List.length_cons, List.length_nil] at e2
  simp only [Sh.fresh, Sh.freshs, SV.den, SV.dens] at e1 e2 ⊢
  rw [e1, e2]
end
def rowB (bs : List UInt8) : Bool × List Snd := if bs = [45] then (false, []) else (true, spellW bs)
theorem fcells_append (a b : List FD) : fcells (a ++ b) = fcells a ++ fcells b := by simp [fcells]
end Go.Sy
namespace Go.Proofs.YtpbbnmjkbfbelaaDoor
open Go Go.Sy Go.RowKit
theorem c_pair (bs cs : List UInt8) (hb : bs.length < 2 ^ 30) (hc : cs.length < 2 ^ 30) : FnM Tryd.prog n_law30_pair [strV bs, strV cs] (fun _ => True) fun v mq _ => ∃ p cp q cq, v = .agg #[slv p (spellW bs).length cp, slv q (spellW cs).length cq] ∧ RowW mq 31 p cp (spellW bs) ∧ RowW mq 31 q cq (spellW cs) := by
  refine FnM.of S_law30_pair mx [.v (strV bs), .v (strV cs)] rfl rfl fun c _ => .alloc fun b0 => .callM (c_spell bs hb) rfl rfl (fun _ => trivial) ?_
  rintro v mq hf ⟨p, cp, rfl, hr⟩
  refine ⟨[.p p, .i (spellW bs).length, .i cp], ⟨_, _, _, rfl⟩, (slv_fresh _ _ _ _ _).symm, .env (by (try simp only [liE, letsOf, letU, snd, List.append_nil]); rfl) (.callM (c_spell cs hc) rfl rfl (fun _ => trivial) ?_)⟩
  rintro v mq2 hf2 ⟨q, cq, rfl, hr2⟩
  exact ⟨[.p q, .i (spellW cs).length, .i cq], ⟨_, _, _, rfl⟩, (slv_fresh _ _ _ _ _).symm, .env (by (try simp only [liE, letsOf, letU, snd, List.append_nil]); rfl) (.ret rfl ⟨p, cp, q, cq, rfl, (hr.joinR fun b hb => rfl).joinL, hr2.joinR fun b hb => (hf2 b hb).1⟩)⟩
theorem c_row (p : Option Addr) (cp : Nat) (l : List (List UInt8)) (hl : l.length < 2 ^ 30) (hs : ∀ b ∈ l, b.length < 2 ^ 30) : FnM Tryd.prog n_law30_row [slv p l.length cp] (fun R => Cells R p (l.map strV)) fun v mq _ => ∃ q cq fs, v = slv q fs.length cq ∧ fs.map FD.data = l.map rowB ∧ RowF mq q cq fs ∧ ∀ f ∈ fs, RowW mq 31 f.w.p f.w.cap f.w.w := by
  refine FnM.of S_law30_row mx [.p p, .i l.length, .i cp] rfl rfl fun c hp => ?_
  refine .loop (fun n us mm => ∃ (j : Nat) (q : Option Addr) (cq : Nat) (fs : List FD), us = [.p q, .i fs.length, .i cq, .i j] ∧ n + j = l.length ∧ fs.length = j ∧ fs.map FD.data = (l.take j).map rowB ∧ Row mm 41 2 q cq fs.length (fcells fs) ∧ ∀ f ∈ fs, RowW mm 31 f.w.p f.w.cap f.w.w) l.length ⟨0, none, 0, [], rfl, rfl, rfl, rfl, Row.nil _ _ _, by simp⟩ ?_
  rintro n _ m _ ⟨j, q, cq, fs, rfl, hn, hfl, hd, hr, hw⟩
  refine .env (by (try simp only [liE, letsOf, letU, snd, List.append_nil]); rfl) (.chk (by ((try simp only [evE, liE, letsOf, letU, snd]); (try simp only [cmE])); omega) (.ite (fun h1 => ?_) (fun h1 => .ret rfl ?_))) <;> ((try simp only [evE, liE, letsOf, letU, snd] at h1); (try simp only [cmE] at h1))
  · have hj : j < l.length := by omega
    have hxj : (l.map strV)[j]? = some (strV l[j]) := by rw [List.getElem?_map, List.getElem?_eq_getElem hj]; rfl
    have ht : (l.take (j + 1)).map rowB = (l.take j).map rowB ++ [rowB l[j]] := by rw [List.take_succ_eq_append_getElem hj, List.map_append]; rfl
    refine .loadStr l j hj (fun g => hp.mono g.R) (.env (by (try simp only [liE, letsOf, letU, snd, List.append_nil]); rfl) (.eqS l[j] [45] Tryd.underlying9 (.env (by (try simp only [liE, letsOf, letU, snd, List.append_nil]); rfl) ?_)))
    refine .join (fun us mm => ∃ (q : Option Addr) (cq : Nat) (fs : List FD), us = [.p q, .i fs.length, .i cq] ∧ fs.length = j + 1 ∧ fs.map FD.data = (l.take (j + 1)).map rowB ∧ Row mm 41 2 q cq fs.length (fcells fs) ∧ ∀ f ∈ fs, RowW mm 31 f.w.p f.w.cap f.w.w) (.ite (fun h2 => .alloc fun b0 => ?_) (fun h2 => ?_)) ?_
    · replace h2 := of_decide_eq_true h2
      refine .append (n := fs.length) (kx := 1) (qx := some ⟨b0, 0, none⟩) (capx := 1) (news := fcells [⟨false, ⟨none, 0, []⟩⟩]) el39 hr (fun g => g.cells (j := 0) rfl rfl rfl) rfl (fcells_one _) (fun h => by cases h) (by simp [maxLen]; omega) (by omega) (fun q3 k3 m3 hr3 hk3 _ => ?_)
      refine .env (by (try simp only [liE, letsOf, letU, snd, List.append_nil]); rfl) (.again rfl ⟨q3, k3, fs ++ [⟨false, ⟨none, 0, []⟩⟩], ?_, by simp; omega, ?_, ?_, fun f hf => ?_⟩)
      · (simp only [evE, liE, letsOf, letU, snd, Sh.uss, Sh.us, atAddr, map_add0, List.append_nil]); simp only [List.length_append, List.length_cons, List.length_nil]
      · rw [ht, List.map_append, hd, h2]; rfl
      · rw [List.length_append, fcells_append]; exact hr3
      · rcases List.mem_append.1 hf with hf | hf
        · refine (hw f hf).keepT fun b cur hb => hk3 b (fun ⟨o, ho⟩ => ?_) (by rw [hb]; simp)
          obtain ⟨cur', hcur'⟩ := hr.at_cells ho
          rw [hcur'] at hb; cases hb
        · simp only [List.mem_cons, List.not_mem_nil, or_false] at hf
          subst hf
          exact .of (Row.nil _ _ _)
    · replace h2 := of_decide_eq_false h2
      refine .loadStr l j hj (fun g => hp.mono g.R) (.env (by (try simp only [liE, letsOf, letU, snd, List.append_nil]); rfl) (.callM (c_spell l[j] (hs _ (List.getElem_mem hj))) rfl rfl (fun _ => trivial) ?_))
      rintro v mq hfr ⟨qs, ks, rfl, hrs⟩
      refine ⟨[.p qs, .i (spellW l[j]).length, .i ks], ⟨_, _, _, rfl⟩, (slv_fresh _ _ _ _ _).symm, .env (by (try simp only [liE, letsOf, letU, snd, List.append_nil]); rfl) ?_⟩
      replace hrs := hrs.joinR (m := m) fun b hb => (hfr b hb).1
      replace hr := hr.joinL (mq := mq)
      replace hw : ∀ f ∈ fs, RowW (m.join mq) 31 f.w.p f.w.cap f.w.w := fun f hf => (hw f hf).joinL
      generalize m.join mq = m1 at *
      refine .alloc fun b0 => .append (n := fs.length) (kx := 1) (qx := some ⟨b0, 0, none⟩) (capx := 1) (news := fcells [⟨true, ⟨qs, ks, spellW l[j]⟩⟩]) el39 hr (fun g => g.cells (j := 0) rfl rfl rfl) rfl (fcells_one _) (fun h => by cases h) (by simp [maxLen]; omega) (by omega) (fun q3 k3 m3 hr3 hk3 _ => ?_)
      have hk31 : ∀ b cur, m1 b = some (.cells cur 31 (0, 0)) → m3 b = m1 b := fun b cur hb => hk3 b (fun ⟨o, ho⟩ => by
        obtain ⟨cur', hcur'⟩ := hr.at_cells ho
        rw [hcur'] at hb; cases hb) (by rw [hb]; simp)
      refine .env (by (try simp only [liE, letsOf, letU, snd, List.append_nil]); rfl) (.again rfl ⟨q3, k3, fs ++ [⟨true, ⟨qs, ks, spellW l[j]⟩⟩], ?_, by simp; omega, ?_, ?_, fun f hf => ?_⟩)
      · (simp only [evE, liE, letsOf, letU, snd, Sh.uss, Sh.us, atAddr, map_add0, List.append_nil]); simp only [List.length_append, List.length_cons, List.length_nil]
      · rw [ht, List.map_append, hd]
        simp only [rowB, if_neg h2]; rfl
      · rw [List.length_append, fcells_append]; exact hr3
      · rcases List.mem_append.1 hf with hf | hf
        · exact (hw f hf).keepT hk31
        · simp only [List.mem_cons, List.not_mem_nil, or_false] at hf
          subst hf
          exact hrs.keepT hk31
    rintro _ m2 _ ⟨q2, cq2, fs2, rfl, hl2, hd2, hr2, hw2⟩
    refine .env (by (try simp only [liE, letsOf, letU, snd, List.append_nil]); rfl) (.again rfl ⟨n - 1, by omega, j + 1, q2, cq2, fs2, ?_, by omega, hl2, hd2, hr2, hw2⟩)
    (simp only [evE, liE, letsOf, letU, snd, Sh.uss, Sh.us, atAddr, map_add0, List.append_nil]); rw [add_i64 j (by omega)]
  · rw [List.take_of_length_le (by omega)] at hd
    exact ⟨q, cq, fs, rfl, hd, ⟨fun _ => hr, hr.cap_le, row_cap0 hr⟩, hw⟩
end Go.Proofs.YtpbbnmjkbfbelaaDoor
namespace Go.Sy
open Go Go.RowKit
theorem ext_fresh (ρ : Env) (L : List Nat) (q : Option Addr) (n cap : Nat) (x e : Int) : ((Sh.tup [.sl, .int .i64, .int .i64]).fresh ρ.length).1.den L (ρ ++ [.p q, .i n, .i cap, .i x, .i e]) = .tuple #[slv q n cap, .int .i64 x, .int .i64 e] := by
  have e1 := sl_at ρ L q n cap [.i x, .i e]
  have e2 := getElem_env ρ [.p q, .i n, .i cap, .i x, .i e] 3
  have e3 := getElem_env ρ [.p q, .i n, .i cap, .i x, .i e] 4
  simp only [Sh.fresh, Sh.freshs, SV.den, SV.dens, IT.eval, Env.int] at e1 e2 e3 ⊢
  rw [e1, show ρ.length + 1 + 2 = ρ.length + 3 by omega, e2, show ρ.length + 3 + 1 = ρ.length + 4 by omega, e3]
  rfl
theorem tab_fresh (ρ : Env) (L : List Nat) (q : Option Addr) (n cap : Nat) (e : Int) : ((Sh.tup [.sl, .int .i64]).fresh ρ.length).1.den L (ρ ++ [.p q, .i n, .i cap, .i e]) = .tuple #[slv q n cap, .int .i64 e] := by
  have e1 := sl_at ρ L q n cap [.i e]
  have e2 := getElem_env ρ [.p q, .i n, .i cap, .i e] 3
  simp only [Sh.fresh, Sh.freshs, SV.den, SV.dens, IT.eval, Env.int] at e1 e2 ⊢
  rw [e1, show ρ.length + 1 + 2 = ρ.length + 3 by omega, e2]
  rfl
theorem rows2 {fs : List FD} {b1 b2 : Bool} {w1 w2 : List Snd} (h : fs.map FD.data = [(b1, w1), (b2, w2)]) : ∃ p1 c1 p2 c2, fs = [⟨b1, ⟨p1, c1, w1⟩⟩, ⟨b2, ⟨p2, c2, w2⟩⟩] := by
  match fs, h with
  | [⟨x1, ⟨p1, c1, y1⟩⟩, ⟨x2, ⟨p2, c2, y2⟩⟩], h =>
    simp only [List.map_cons, List.map_nil, FD.data, List.cons.injEq, Prod.mk.injEq, and_true] at h
    obtain ⟨⟨rfl, rfl⟩, rfl, rfl⟩ := h
    exact ⟨p1, c1, p2, c2, rfl⟩
  | [], h => simp at h
  | [_], h => simp at h
  | _ :: _ :: _ :: _, h => simp at h
theorem TabIn.joinR {m mq : Mem} {q : Option Addr} {cq : Nat} {rows : List LD} (h : TabIn mq q cq rows) (hf : ∀ b, mq b ≠ none → m b = none) : TabIn (m.join mq) q cq rows := h.keepT (fun b cur hb => Mem.join_new (hf b (by rw [hb]; simp))) (fun b cur hb => Mem.join_new (hf b (by rw [hb]; simp))) fun _ _ b cur _ hb _ => Mem.join_new (hf b (by rw [hb]; simp))
theorem RowF.joinR {m mq : Mem} {q : Option Addr} {cap : Nat} {fs : List FD} (h : RowF mq q cap fs) (hf : ∀ b, mq b ≠ none → m b = none) : RowF (m.join mq) q cap fs := h.keepT fun b cur _ hb _ => Mem.join_new (hf b (by rw [hb]; simp))
theorem tab_small {t : List LD} {d : List (List (Bool × List Snd))} (h : t.map LD.data = d) (hd : (∀ r ∈ d, r.length < 2 ^ 62 ∧ ∀ f ∈ r, f.2.length < 2 ^ 62) := by decide) : ∀ r ∈ t, r.fs.length < 2 ^ 62 ∧ ∀ f ∈ r.fs, f.w.w.length < 2 ^ 62 := fun r hr => by
  have hm : r.data ∈ d := h ▸ List.mem_map_of_mem hr
  have := hd _ hm
  refine ⟨by have := this.1; unfold LD.data at this; simpa using this, fun f hf => ?_⟩
  exact this.2 f.data (List.mem_map_of_mem hf)
end Go.Sy
