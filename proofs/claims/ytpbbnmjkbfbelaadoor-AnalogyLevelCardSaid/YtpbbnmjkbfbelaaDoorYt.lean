/- Chapter 30: the law AnalogyLevel. -/
import Derived.Test.YtpbbnmjkbfbelaaDoorYs
import Derived.Test.YtpbbnmjkbfbelaaDoorTcLevel
set_option linter.unusedSimpArgs false
set_option linter.unusedVariables false
namespace Go.Sy
open Go Go.RowKit
section
variable {P : Program} {c : Cx} {L : List Nat} {ρ : Env} {blks : List Blk} {m : Mem} {R : Value → HW → Prop} {Dn : Nat → List U → HW → Prop} {A : List (List U → HW → Prop)}
/-- All of an array somewhere, as a slice. -/
theorem DenM.sliceArr {t ty : TypeId} {x : Operand} {sv : SV} {k : Tree} {b o : Nat} (n size : Nat) (hn : 0 < n) (hu : P.underlying t = some (.array (P.arrayLen t) (P.elem t))) (hl : P.arrayLen t = n) (hz : (P.info? (P.elem t)).map (·.size) = some size) (hv : sv.den L ρ = .pointer (some ⟨b, o, none⟩))
    (hk : DenM P R Dn k L (ρ ++ [.p (some ⟨b, o, none⟩), .i (n : Nat), .i (n : Nat)]) c m A) : DenM P R Dn (.extp ⟨.slice t x none none none, ty, [sv]⟩ .sl blks k) L ρ c m A := by
  refine .extp _ ⟨_, _, _, rfl⟩ (fun _ w _ => ?_) hk
  show (XOp.sem (.slice t x none none none) ty [sv.den L ρ]).run P w = _
  rw [hv, slv_fresh]
  show (do pure (Next.value (← Instr.sliceAt t (.pointer (some ⟨b, o, none⟩)) none none none)) : Sem Next).run P w = _
  have hs : (Go.sizeOf (P.elem t)).run P w = .ok size w := by
    cases hi : P.info? (P.elem t) with
    | none => rw [hi] at hz; cases hz
    | some i =>
      rw [hi] at hz
      have : i.size = size := by simpa using hz
      simp [Go.sizeOf, typeInfo, hi, this]
  rw [Sem.run_bind, run_sliceAt_array_all w t ⟨b, o, none⟩ hu, hs, hl]
  show Result.ok (Next.value (slicedAt ⟨b, o, none⟩ 0 n n size)) w = _
  congr 2
  unfold slicedAt slv
  rw [if_neg (by omega)]
  simp [Addr.add]
end
/-- Rows of four forms, one behind the other. -/
theorem flat_at {ls : List (List FD)} (h4 : ∀ r ∈ ls, r.length = 4) (i : Nat) (hi : i < ls.length) (j : Nat) (hj : j < 8) : (ls.flatMap fcells)[i * 8 + j]? = (fcells ls[i])[j]? := by
  induction ls generalizing i with
  | nil => simp at hi
  | cons r ls ih =>
    have hr : (fcells r).length = 8 := by rw [fcells_len, h4 r (List.mem_cons_self ..)]
    rw [List.flatMap_cons]
    cases i with
    | zero => rw [List.getElem?_append_left (by omega)]; simp
    | succ i =>
      rw [List.getElem?_append_right (by omega), hr, show (i + 1) * 8 + j - 8 = i * 8 + j by omega]
      exact ih (fun r hr => h4 r (List.mem_cons_of_mem _ hr)) i (by simpa using hi)
theorem flat_len {ls : List (List FD)} (h4 : ∀ r ∈ ls, r.length = 4) : (ls.flatMap fcells).length = ls.length * 8 := by
  induction ls with
  | nil => rfl
  | cons r ls ih => rw [List.flatMap_cons, List.length_append, ih (fun r hr => h4 r (List.mem_cons_of_mem _ hr)), fcells_len, h4 r (List.mem_cons_self ..), List.length_cons]; omega
theorem row_far {m : Mem} {e : TypeId} {size : Nat} {q : Option Addr} {cap n : Nat} {xs : List Value} (h : Row m e size q cap n xs) {ρ : Env} {i : Nat} {o : Int} (hp : ρ.ptr i = q) {ad : Addr} (had : Value.pointer (atAddr ρ i o) = .pointer (some ad)) : ∃ cur e f, m ad.block = some (.cells cur e f) := by
  unfold atAddr at had
  rw [hp] at had
  rcases h.2 with ⟨k, _⟩ | ⟨g, cur, k, hg, _⟩
  · rw [k] at had; cases had
  · rw [k] at had
    simp only [Option.map_some, addr_add, Value.pointer.injEq, Option.some.injEq] at had
    subst had
    exact ⟨cur, e, (0, 0), hg⟩
theorem remN {a : Int} {n : Nat} (ha : 0 ≤ a ∧ a < 256) : ∃ A : Nat, ar .rem .i64 (IntKind.i64.wrap a) (n : Int) = (A : Int) ∧ (0 < n → A < n) := by
  obtain ⟨v, rfl⟩ := Int.eq_ofNat_of_zero_le ha.1
  refine ⟨v % n, ?_, fun h => Nat.mod_lt _ h⟩
  show (IntKind.i64.wrap (v : Int)).tmod (n : Int) = _
  rw [wrap_i64 (by omega) (by omega)]
  rfl
end Go.Sy
namespace Go.Proofs.YtpbbnmjkbfbelaaDoor
open Go Go.Sy Go.RowKit
/-- A paradigm whose rows are the call's own, and whose words are others'. -/
structure Kin (m : Mem) (q : Option Addr) (cq : Nat) (rows : List LD) : Prop where
  row : Row m 39 1 q cq rows.length (rows.map LD.v)
  rows : ∀ r ∈ rows, RowF m r.p r.cap r.fs
theorem Kin.keepT {m m' : Mem} {q : Option Addr} {cq : Nat} {rows : List LD} (h : Kin m q cq rows) (h1 : ∀ b cur, m b = some (.cells cur 39 (0, 0)) → m' b = m b) (h2 : ∀ b cur, m b = some (.cells cur 41 (0, 0)) → m' b = m b) : Kin m' q cq rows :=
  ⟨h.row.keep fun g hq _ => by obtain ⟨cur, hcur⟩ := h.row.at_cells hq; exact h1 g cur hcur, fun r hr => (h.rows r hr).keepT fun b cur _ hb _ => h2 b cur hb⟩
theorem Kin.keep {m m' : Mem} {q : Option Addr} {cq : Nat} {rows : List LD} (h : Kin m q cq rows) (hk : ∀ b, m b ≠ none → m' b = m b) : Kin m' q cq rows := h.keepT (fun b cur hb => hk b (by rw [hb]; simp)) fun b cur hb => hk b (by rw [hb]; simp)
end Go.Proofs.YtpbbnmjkbfbelaaDoor
namespace Go.Sy
open Go Go.RowKit
theorem chkI {ρ : Env} {i : Nat} {I len : IT} {j n : Nat} {q : Addr} (hI : I.eval ρ = (j : Int)) (hn : len.eval ρ = (n : Int)) (hj : j < n) (hp : ρ.ptr i = some q) : (BT.pick (.cmp .geq I (.lit 0)) (.pick (.cmp .lss I len) (.some i) (.lit false)) (.lit false)).eval ρ = true := by
  simp only [BT.eval, IT.eval, hI, hn, hp, cm, pick_and]; simp; omega
theorem chkO {ρ : Env} {i : Nat} {I : IT} {j s : Nat} {q : Addr} (hI : I.eval ρ = (j : Int)) (hp : ρ.ptr i = some q) : (BT.pick (.cmp .geq (.off I s (.lit 0)) (.lit 0)) (.some i) (.lit false)).eval ρ = true := by
  simp only [BT.eval, IT.eval, hI, hp, cm, pick_and]
  have h0 := Int.mul_nonneg (show (0 : Int) ≤ (j : Int) by omega) (show (0 : Int) ≤ (s : Int) by omega)
  simp
  exact h0
theorem TabIn.keepM {m m' : Mem} {q : Option Addr} {cq : Nat} {rows : List LD} (h : TabIn m q cq rows) (hk : ∀ b, m b ≠ none → m' b = m b) : TabIn m' q cq rows := h.keepT (fun b cur hb => hk b (by rw [hb]; simp)) (fun b cur hb => hk b (by rw [hb]; simp)) fun _ _ b cur _ hb _ => hk b (by rw [hb]; simp)
/-- It has all that m has. -/
def Mem.le (m m' : Mem) : Prop := ∀ b o, m b = some o → m' b = some o
theorem Mem.le.keep {m m' : Mem} (h : m.le m') {b : Nat} (hb : m b ≠ none) : m' b = m b := by
  cases e : m b with
  | none => exact absurd e hb
  | some o => exact h b o e
section
variable {P : Program} {c : Cx} {L : List Nat} {ρ : Env} {blks : List Blk} {m : Mem} {R : Value → HW → Prop} {Dn : Nat → List U → HW → Prop} {A : List (List U → HW → Prop)}
/-- A call that answers with new memory: what was there is there, and what is new. -/
theorem DenM.callE {p : Bool} {f : FuncId} {args : List SV} {sh : Sh} {k : Tree} {vs : List Value} {pre : Mv → Prop} {Q : Value → Mem → Mv → Prop} (hc : FnM P f vs pre Q) (hpre : Good c L m → pre (vw c L ρ blks m))
    (hk : ∀ v mq m', m.le m' → mq.le m' → Q v mq ((vw c L ρ blks m).on mq) → ∃ us, UOk sh us ∧ v = (sh.fresh ρ.length).1.den L (ρ ++ us) ∧ DenM P R Dn k L (ρ ++ us) c m' A) (hargs : SV.dens L ρ args = vs := by rfl) (hs : scBlks ρ.length blks = true := by rfl) : DenM P R Dn (.call p f args sh blks k) L ρ c m A :=
  .callM hc hargs hs hpre fun v mq hfr hQ => hk v mq _ (fun b o hb => by unfold Mem.join; rw [hb]) (fun b o hb => by unfold Mem.join; rw [(hfr b (by rw [hb]; simp)).1, hb]) hQ
end
end Go.Sy
namespace Go.Proofs.YtpbbnmjkbfbelaaDoor
open Go Go.Sy Go.RowKit
def FourAt (R : Mv) (p : Option Addr) (ls : List (List FD)) : Prop := Cells R p (ls.flatMap fcells) ∧ ∀ r ∈ ls, ∀ f ∈ r, WordAt R f.w.p f.w.w
theorem lv_at {rows xs : List LD} {base : List Snd} {rr : Nat} (h : xs.map LD.data = lvTab rows base rr) {i : Nat} (hi : i < rows.length) (hx : i < xs.length) : xs[i].fs.length = rows[i].fs.length ∧ ∀ k (hk : k < rows[i].fs.length) (hk' : k < xs[i].fs.length), xs[i].fs[k].has = rows[i].fs[k].has ∧ xs[i].fs[k].w.w = if i = rr ∧ rows[i].fs[k].has = true then lvW rows base k rows[i].fs[k] else rows[i].fs[k].w.w := by
  have h1 := congrArg (fun l => l[i]?) h
  simp only [lvTab, List.getElem?_map, List.getElem?_mapIdx, List.getElem?_eq_getElem hi, List.getElem?_eq_getElem hx, Option.map_some, Option.some.injEq] at h1
  refine ⟨by have := congrArg List.length h1; rw [lvRow_len] at this; simpa [LD.data] using this, fun k hk hk' => ?_⟩
  have h2 := congrArg (fun l => l[k]?) h1
  rw [show (lvRow rows base rr i rows[i])[k]? = _ from lvRow_at hk] at h2
  simp only [LD.data, List.getElem?_map, List.getElem?_eq_getElem hk', Option.map_some, Option.some.injEq, FD.data, lvF, Prod.mk.injEq] at h2
  exact h2
set_option maxHeartbeats 8000000 in
theorem l_AnalogyLevel (p : Option Addr) (cp : Nat) (ls : List (List FD)) (a b : Int) (h4 : ∀ r ∈ ls, r.length = 4) (hok : ∀ r ∈ ls, ∀ f ∈ r, Wok f.w.w ∧ f.w.ok) (hl : ls.length ≤ maxLen) (ha : 0 ≤ a ∧ a < 256) (hb : 0 ≤ b ∧ b < 256) :
    RetP Tryd.prog n_law30_AnalogyLevel [slv p ls.length cp, .int .u8 a, .int .u8 b] (fun R => FourAt R p ls ∧ VarsOk R) (.bool true) := by
  refine Fn.of S_law30_AnalogyLevel mx [.p p, .i ls.length, .i cp, .i a, .i b] rfl rfl fun c hp => ?_
  obtain ⟨hp, hV⟩ := hp
  refine .join (fun us _ => ∃ x : Bool, us = [.b x] ∧ (x = false → 0 < ls.length ∧ ls.length ≤ 10)) (.chk (by ((try simp only [evE, liE, letsOf, letU, snd]); (try simp only [cmE])); omega) (.ite (fun h1 => .again rfl ⟨true, rfl, nofun⟩) (fun h1 => .chk (by ((try simp only [evE, liE, letsOf, letU, snd]); (try simp only [cmE])); omega) (.again rfl ⟨_, rfl, fun h => ?_⟩)))) ?_
  · ((try simp only [evE, liE, letsOf, letU, snd] at h1); (try simp only [cmE] at h1))
    replace h : cm .gtr (ls.length : Int) 10 = false := h
    simp only [cm, decide_eq_false_iff_not] at h
    omega
  rintro _ m _ ⟨x, rfl, hx⟩
  refine .env (by (try simp only [liE, letsOf, letU, snd, List.append_nil]); rfl) (.ite (fun h1 => .callV c_works (fun g => hV.mono g.R) (.env (by (try simp only [liE, letsOf, letU, snd, List.append_nil]); rfl) (.ret rfl rfl))) (fun h1 => ?_))
  obtain ⟨hl0, hl10⟩ := hx (by simpa [BT.eval, Env.bool] using h1)
  obtain ⟨pb, po, hpe⟩ : ∃ pb po, p = some ⟨pb, po, none⟩ := hp.1.some (i := 0) (by rw [flat_len h4]; omega)
  subst hpe
  clear h1 hx
  refine .loop (fun n us m => ∃ (e : Bool) (q : Option Addr) (cq : Nat) (rows : List LD), us = [.b e, .p q, .i rows.length, .i cq, .i rows.length] ∧ n + rows.length = ls.length ∧ rows.map (·.fs) = ls.take rows.length ∧ Kin m q cq rows ∧ ∀ r ∈ rows, ∀ f ∈ r.fs, f.w.w.length ≤ 32) ls.length ⟨false, none, 0, [], rfl, rfl, rfl, ⟨Row.nil _ _ _, by simp⟩, by simp⟩ ?_
  rintro n _ m1 _ ⟨e, q, cq, rows, rfl, hn, hfs, hT, h32⟩
  refine .env (by (try simp only [liE, letsOf, letU, snd, List.append_nil]); rfl) (.chk (by ((try simp only [evE, liE, letsOf, letU, snd]); (try simp only [cmE])); omega) (.ite (fun h2 => ?_) (fun h2 => ?_))) <;> ((try simp only [evE, liE, letsOf, letU, snd] at h2); (try simp only [cmE] at h2))
  · have hi : rows.length < ls.length := by omega
    have hr4 := h4 _ (List.getElem_mem hi)
    have hflat := flat_at h4 rows.length hi
    have hcell : Cells c.R (some ⟨pb, po + rows.length * 8, none⟩) (fcells ls[rows.length]) := fun j y hy => by
      have hj : j < 8 := by have := (List.getElem?_eq_some_iff.1 hy).1; rw [fcells_len, hr4] at this; exact this
      obtain ⟨b', o', e1, e2⟩ := hp.1 (rows.length * 8 + j) y (by rw [hflat j hj]; exact hy)
      cases e1
      exact ⟨pb, po + rows.length * 8, rfl, by rw [Nat.add_assoc]; exact e2⟩
    have hts : ls.take (rows.length + 1) = ls.take rows.length ++ [ls[rows.length]] := List.take_succ_eq_append_getElem hi
    have hpt : ∀ {L : List Nat} {ρ : Env}, ρ.ptr 0 = some ⟨pb, po, none⟩ → ρ.int 10 = (rows.length : Int) → (SV.ptr 0 (.off (.var 10) 8 (.lit 0))).den L ρ = .pointer (some ⟨pb, po + rows.length * 8, none⟩) := fun {L ρ} e1 e2 => by
      simp only [SV.den, IT.eval, atAddr, e1, e2, Option.map_some, addr_add]
      rw [show ((0 : Int) + (rows.length : Int) * ((8 : Nat) : Int)).toNat = rows.length * 8 by omega]
    refine .alloc fun b0 => .chk (chkI rfl rfl hi rfl) (.sliceArr 4 2 (by decide) (by kernel_rfl) (by kernel_rfl) (by kernel_rfl) (hpt rfl rfl) (.env (by (try simp only [liE, letsOf, letU, snd, List.append_nil]); rfl) ?_))
    refine .appendOwn (b0 := b0) (n := 0) (xs := []) (qx := some ⟨pb, po + rows.length * 8, none⟩) (kx := 4) (capx := 4) (news := fcells ls[rows.length]) el39 rfl (fun _ i x h => by simp at h) (fun g => hcell.mono g.R) (by rw [fcells_len, hr4]) (fcells_one _) (fun h => by cases h) (by decide) (by decide) (fun q1 k1 m2 hr1 _ hk1 => .env (by (try simp only [liE, letsOf, letU, snd, List.append_nil]); rfl) ?_)
    replace hr1 : Row m2 41 2 q1 k1 4 (fcells ls[rows.length]) := (hr1 (by decide)).1
    have hF : RowF m2 q1 k1 ls[rows.length] := ⟨fun _ => by rw [hr4]; exact hr1, by rw [hr4]; exact hr1.cap_le, row_cap0 hr1⟩
    replace hT := hT.keep hk1
    refine .alloc fun b1 => .append (n := rows.length) (kx := 1) (qx := some ⟨b1, 0, none⟩) (capx := 1) (news := [slv q1 4 k1]) el42 hT.row (fun g => g.cells (j := 1) rfl rfl rfl) rfl (by simp; unfold slv; cases q1 <;> rfl) (fun h => by cases h) (by simp [maxLen]; omega) (by omega) (fun q3 k3 m3 hr3 hk3 _ => .env (by (try simp only [liE, letsOf, letU, snd, List.append_nil]); rfl) ?_)
    have hkT : ∀ b cur, m2 b = some (.cells cur 41 (0, 0)) → m3 b = m2 b := fun b cur hb => hk3 b (fun ⟨o, ho⟩ => by
      obtain ⟨cur', hcur'⟩ := hT.row.at_cells ho
      rw [hcur'] at hb; cases hb) (by rw [hb]; simp)
    have hT3 : Kin m3 q3 k3 (rows ++ [⟨q1, k1, ls[rows.length]⟩]) := ⟨by
      rw [List.length_append, List.map_append]
      show Row m3 39 1 q3 k3 (rows.length + 1) (rows.map LD.v ++ [slv q1 ls[rows.length].length k1])
      rw [hr4]; exact hr3, fun r hr => by
      rcases List.mem_append.1 hr with hr | hr
      · exact (hT.rows r hr).keepT fun b cur _ hb _ => hkT b cur hb
      · simp only [List.mem_cons, List.not_mem_nil, or_false] at hr
        subst hr
        exact hF.keepT fun b cur _ hb _ => hkT b cur hb⟩
    clear hr1 hF hT hkT hr3 hk3 hk1
    have k1' : ∀ ρ : Env, ∀ k : Nat, k < 4 → ρ.ptr 0 = some ⟨pb, po, none⟩ → ρ.int 10 = (rows.length : Int) → ρ.int 21 = (k : Int) → (BT.pick (.cmp .geq (.off (.var 10) 8 (.lit 0)) (.lit 0)) (.pick (.cmp .geq (.var 21) (.lit 0)) (.pick (.cmp .lss (.var 21) (.lit 4)) (.some 0) (.lit false)) (.lit false)) (.lit false)).eval ρ = true := fun ρ k hk e1 e2 e3 => by
      simp only [BT.eval, IT.eval, e1, e2, e3, cm, pick_and]; simp; omega
    have k2' : ∀ ρ : Env, ∀ k : Nat, ρ.ptr 0 = some ⟨pb, po, none⟩ → ρ.int 10 = (rows.length : Int) → ρ.int 21 = (k : Int) → (BT.pick (.cmp .geq (.off (.var 21) 2 (.off (.var 10) 8 (.lit 0))) (.lit 0)) (.some 0) (.lit false)).eval ρ = true := fun ρ k e1 e2 e3 => by
      simp only [BT.eval, IT.eval, e1, e2, e3, cm, pick_and]; simp; omega
    have k3' : ∀ ρ : Env, ∀ k : Nat, ρ.int 10 = (rows.length : Int) → ρ.int 21 = (k : Int) → (IT.off (.lit 1) 1 (.off (.var 21) 2 (.off (.var 10) 8 (.lit 0)))).eval ρ = ((rows.length * 8 + (k * 2 + 1) : Nat) : Int) := fun ρ k e2 e3 => by
      simp only [IT.eval, e2, e3]; omega
    refine .loop (fun n us m => ∃ (e : Bool) (k : Nat), us = [.b e, .i k] ∧ n + k = 4 ∧ m = m3 ∧ ∀ j (hj : j < ls[rows.length].length), j < k → ls[rows.length][j].w.w.length ≤ 32) 4 ⟨e, 0, rfl, rfl, rfl, fun j hj h => by omega⟩ ?_
    rintro n1 _ _ _ ⟨e, k, rfl, hn1, rfl, hk32⟩
    refine .env (by (try simp only [liE, letsOf, letU, snd, List.append_nil]); rfl) (.ite (fun h3 => ?_) (fun h3 => .again rfl ⟨n - 1, by omega, e, q3, k3, rows ++ [⟨q1, k1, ls[rows.length]⟩], ?_, by simp; omega, ?_, hT3, fun r hr f hf => ?_⟩)) <;> ((try simp only [evE, liE, letsOf, letU, snd] at h3); (try simp only [cmE] at h3))
    · have hk : k < ls[rows.length].length := by omega
      refine .chk (chkI rfl rfl hi rfl) (.chk (k1' _ k (by omega) rfl rfl rfl) (.chk (k2' _ k rfl rfl rfl) (.loadS (ls.flatMap fcells) (rows.length * 8 + (k * 2 + 1)) ls[rows.length][k].w.p ls[rows.length][k].w.w.length ls[rows.length][k].w.cap (k3' _ k rfl rfl) (by rw [hflat _ (by omega)]; exact (fcells_at _ k hk).2) (fun g => hp.1.mono g.R) (.env (by (try simp only [liE, letsOf, letU, snd, List.append_nil]); rfl) (.chk (by ((try simp only [evE, liE, letsOf, letU, snd]); (try simp only [cmE])); omega) (.ite (fun h5 => .callV c_works (fun g => hV.mono g.R) (.env (by (try simp only [liE, letsOf, letU, snd, List.append_nil]); rfl) (.ret rfl rfl))) (fun h5 => .again rfl ⟨n1 - 1, by omega, e, k + 1, ?_, by omega, rfl, fun j hj hjk => ?_⟩)))))))
      · (simp only [evE, liE, letsOf, letU, snd, Sh.uss, Sh.us, atAddr, map_add0, List.append_nil]); rw [add_i64 k (by omega)]
      · ((try simp only [evE, liE, letsOf, letU, snd] at h5); (try simp only [cmE] at h5))
        rcases Nat.lt_or_ge j k with h | h
        · exact hk32 j hj h
        · have : j = k := by omega
          subst this; omega
    · (simp only [evE, liE, letsOf, letU, snd, Sh.uss, Sh.us, atAddr, map_add0, List.append_nil]); rw [add_i64 rows.length (by omega)]; simp only [List.length_append, List.length_cons, List.length_nil]
    · rw [List.length_append, List.map_append, hfs]
      show _ = ls.take (rows.length + 1)
      rw [hts]; rfl
    · rcases List.mem_append.1 hr with hr | hr
      · exact h32 r hr f hf
      · simp only [List.mem_cons, List.not_mem_nil, or_false] at hr
        subst hr
        obtain ⟨j, hj, rfl⟩ := List.getElem_of_mem hf
        exact hk32 j hj (by have hj' : j < ls[rows.length].length := hj; omega)
  have hL : rows.length = ls.length := by omega
  rw [List.take_of_length_le (by omega)] at hfs
  have hmem : ∀ r ∈ rows, r.fs ∈ ls := fun r hr => by rw [← hfs]; exact List.mem_map_of_mem hr
  have h4r : ∀ r ∈ rows, r.fs.length = 4 := fun r hr => h4 _ (hmem r hr)
  have hokr : FormsOk rows := fun r hr f hf => hok _ (hmem r hr) f hf
  have hWat : ∀ r ∈ rows, ∀ f ∈ r.fs, WordAt c.R f.w.p f.w.w := fun r hr f hf => hp.2 _ (hmem r hr) f hf
  have hTab : ∀ {m : Mem} {L : List Nat} {ρ : Env} {blks : List Blk}, Kin m q cq rows → Sy.Good c L m → TableAt (vw c L ρ blks m) q rows := fun hT g => ⟨hT.row.reads g, fun r hr => ⟨(hT.rows r hr).reads g, fun f hf => (hWat r hr f hf).mono g.R⟩⟩
  obtain ⟨rr, e1, hr1⟩ := remN (n := ls.length) ha
  obtain ⟨cc, e2, hc1⟩ := remN (n := 4) hb
  have hrr : rr < rows.length := by have := hr1 hl0; omega
  have hc4 : cc < 4 := hc1 (by decide)
  replace e2 : ar .rem .i64 (IntKind.i64.wrap b) 4 = (cc : Int) := e2
  have hci : ∀ i (hi : i < rows.length), cc < rows[i].fs.length := fun i hi => by rw [h4r _ (List.getElem_mem hi)]; exact hc4
  clear hr1 hc1 h2
  refine .callV (c_Check q cq rows (by omega) (fun r hr => by rw [h4r r hr]; decide) hokr) (fun g => hTab hT g) (.env (by (try simp only [liE, letsOf, letU, snd, List.append_nil]); rfl) (.ite (fun h3 => .callV c_works (fun g => hV.mono g.R) (.env (by (try simp only [liE, letsOf, letU, snd, List.append_nil]); rfl) (.ret rfl rfl))) (fun h3 => ?_)))
  ((try simp only [evE, liE, letsOf, letU, snd] at h3); (try simp only [cmE] at h3))
  replace h3 : checkT rows = 0 := by omega
  have hcl := hci rr hrr
  have hF1 := List.getElem_mem hcl
  have hlev : levR rows rr cc = levF rows rr cc rows[rr] rows[rr].fs[cc] := by
    unfold levR
    rw [if_neg (by simp [h3]), if_neg (by omega)]
    simp only [Int.toNat_natCast, List.getElem?_eq_getElem hrr, List.getElem?_eq_getElem hcl]
  refine .chk (by ((try simp only [evE, liE, letsOf, letU, snd]); (try simp only [cmE])); omega) (.chk (by ((try simp only [evE, liE, letsOf, letU, snd]); (try simp only [cmE])); omega) (.callE (c_Level q cq rows rr cc (by omega) (fun r hr => ⟨by rw [h4r r hr]; decide, (hT.rows r hr).le, (hT.rows r hr).nil⟩) hokr) (fun g => hTab hT g) ?_ (hargs := by show [slv q rows.length cq, Value.int .i64 (ar .rem .i64 (IntKind.i64.wrap a) (ls.length : Int)), Value.int .i64 (ar .rem .i64 (IntKind.i64.wrap b) 4)] = _; rw [e1, e2])))
  rintro v mq m2 hle hq ⟨qx, cx, xs, rfl, hx1, hX⟩
  refine ⟨[.p qx, .i xs.length, .i cx, .i (levR rows rr cc).2], uOk_of rfl, (tab_fresh _ _ _ _ _ _).symm, .env (by (try simp only [liE, letsOf, letU, snd, List.append_nil]); rfl) ?_⟩
  replace hT := hT.keep fun b hb => hle.keep hb
  replace hX := hX.keepM fun b hb => hq.keep hb
  clear hle hq
  refine .loadLD rows rr hrr (fun g => hT.row.reads g) (.env (by (try simp only [liE, letsOf, letU, snd, List.append_nil]); rfl) ?_) (hI := e1)
  refine .loadHas rows[rr].fs cc hcl (fun g => (hT.rows _ (List.getElem_mem hrr)).reads g) (.env (by (try simp only [liE, letsOf, letU, snd, List.append_nil]); rfl) (.ite (fun h5 => ?_) (fun h5 => ?_))) (hI := e2)
  · replace h5 : (!rows[rr].fs[cc].has) = true := h5
    have hno : levR rows rr cc = ([], 5) := by rw [hlev]; unfold levF; rw [if_pos (by simpa using h5)]
    rw [hno] at hx1 ⊢
    have hx0 : xs.length = 0 := by simpa using congrArg List.length hx1
    refine .join (fun us _ => us = [.b true]) (.yes rfl (.chk (by ((try simp only [evE, liE, letsOf, letU, snd]); (try simp only [cmE])); omega) (.yes ?_ (.callV c_works (fun g => hV.mono g.R) (.env (by (try simp only [liE, letsOf, letU, snd, List.append_nil]); rfl) (.again rfl rfl)))))) ?_
    · show cm .eql (xs.length : Int) 0 = true
      rw [hx0]; rfl
    rintro _ _ _ rfl
    exact .env (by (try simp only [liE, letsOf, letU, snd, List.append_nil]); rfl) (.ret rfl rfl)
  replace h5 : (!rows[rr].fs[cc].has) = false := h5
  have hhas : rows[rr].fs[cc].has = true := by simpa using h5
  refine .ite (fun h6 => ?_) (fun h6 => ?_)
  · replace h6 : cm .eql (levR rows rr cc).2 11 = true := h6
    have hno : (levR rows rr cc).1 = [] := by
      rw [hlev] at h6 ⊢
      unfold levF at h6 ⊢
      rw [if_neg (by simp [hhas])] at h6 ⊢
      split at h6
      · rename_i hz; rw [if_pos hz]
      · cases h6
    rw [hno] at hx1
    have hx0 : xs.length = 0 := by simpa using congrArg List.length hx1
    refine .join (fun us _ => us = [.b true]) (.chk (by ((try simp only [evE, liE, letsOf, letU, snd]); (try simp only [cmE])); omega) (.yes ?_ (.callV c_works (fun g => hV.mono g.R) (.env (by (try simp only [liE, letsOf, letU, snd, List.append_nil]); rfl) (.again rfl rfl))))) ?_
    · show cm .eql (xs.length : Int) 0 = true
      rw [hx0]; rfl
    rintro _ _ _ rfl
    exact .env (by (try simp only [liE, letsOf, letU, snd, List.append_nil]); rfl) (.ret rfl rfl)
  replace h6 : cm .eql (levR rows rr cc).2 11 = false := h6
  have hyes : levR rows rr cc = (lvTab rows (rows[rr].fs[cc].w.w.take (rows[rr].fs[cc].w.w.length - endK rows cc)) rr, 0) := by
    rw [hlev] at h6 ⊢
    unfold levF at h6 ⊢
    rw [if_neg (by simp [hhas])] at h6 ⊢
    split at h6
    · cases h6
    · rename_i hz; rw [if_neg hz]
  rw [hyes] at hx1 ⊢
  replace hx1 : xs.map LD.data = lvTab rows (rows[rr].fs[cc].w.w.take (rows[rr].fs[cc].w.w.length - endK rows cc)) rr := hx1
  clear h6 hlev hyes h5
  have hxl : xs.length = rows.length := by have := congrArg List.length hx1; simpa [lvTab] using this
  have hxs := fun (i : Nat) (hi : i < rows.length) (hx : i < xs.length) => lv_at hx1 hi hx
  have hF0 : rows[rr].fs[cc].w.w ∈ (knownF rows cc).map (·.w) := List.mem_map_of_mem (List.mem_filterMap.2 ⟨rows[rr], List.getElem_mem hrr, by simp [List.getElem?_eq_getElem hcl, hhas]⟩)
  have hEL : endK rows cc ≤ rows[rr].fs[cc].w.w.length := endK_le (List.getElem_mem hrr) (List.getElem?_eq_getElem hcl) hhas
  have hE0 : endK rows cc = endW ((knownF rows cc).map (·.w)) := rfl
  have hFat := hWat _ (List.getElem_mem hrr) _ hF1
  have hF32 := h32 _ (List.getElem_mem hrr) _ hF1
  have hFok := (hokr _ (List.getElem_mem hrr) _ hF1).2
  clear hx1
  refine .join (fun us mm => us = [.b false] ∧ mm = m2) (.no rfl (.chk (by ((try simp only [evE, liE, letsOf, letU, snd]); (try simp only [cmE])); omega) (.chk (by ((try simp only [evE, liE, letsOf, letU, snd]); (try simp only [cmE])); omega) (.again rfl ⟨?_, rfl⟩)))) ?_
  · (simp only [evE, liE, letsOf, letU, snd, Sh.uss, Sh.us, atAddr, map_add0, List.append_nil])
    rw [hxl]
    simp [cm]
  rintro _ m3 _ ⟨rfl, rfl⟩
  refine .env (by (try simp only [liE, letsOf, letU, snd, List.append_nil]); rfl) (.no rfl ?_)
  have hcap : ∀ i (hi : i < xs.length), ∀ k (hk : k < xs[i].fs.length), xs[i].fs[k].w.w.length ≤ xs[i].fs[k].w.cap := fun i hi k hk => ((hX.rows _ (List.getElem_mem hi)).2 _ (List.getElem_mem hk)).le
  have hxW : ∀ i (hi : i < xs.length), ∀ k (hk : k < xs[i].fs.length), RowW m3 31 xs[i].fs[k].w.p xs[i].fs[k].w.cap xs[i].fs[k].w.w := fun i hi k hk => (hX.rows _ (List.getElem_mem hi)).2 _ (List.getElem_mem hk)
  refine .loadLD rows rr hrr (fun g => hT.row.reads g) (.env (by (try simp only [liE, letsOf, letU, snd, List.append_nil]); rfl) ?_) (hI := e1)
  refine .loadFW rows[rr].fs cc hcl (fun g => (hT.rows _ (List.getElem_mem hrr)).reads g) (.env (by (try simp only [liE, letsOf, letU, snd, List.append_nil]); rfl) (.chk (by ((try simp only [evE, liE, letsOf, letU, snd]); (try simp only [cmE])); omega) ?_)) (hI := e2)
  obtain ⟨E, hE⟩ : ∃ E, E = endK rows cc := ⟨_, rfl⟩
  rw [← hE] at hEL hE0 hxs
  refine .join (fun us mm => ∃ z : Int, us = [.i ((rows[rr].fs[cc].w.w.length - E : Nat) : Int), .i z] ∧ mm = m3) ?_ ?_
  · refine .loop (fun n us mm => ∃ (bs k : Nat), us = [.i bs, .i k] ∧ mm = m3 ∧ n + k = rows[rr].fs[cc].w.w.length ∧ ((bs = rows[rr].fs[cc].w.w.length ∧ k ≤ E ∧ (k < rows[rr].fs[cc].w.w.length ∨ rows[rr].fs[cc].w.w.length = 0)) ∨ (bs = 0 ∧ E = rows[rr].fs[cc].w.w.length ∧ k = rows[rr].fs[cc].w.w.length))) rows[rr].fs[cc].w.w.length ⟨_, 0, rfl, rfl, by omega, .inl ⟨rfl, by omega, by omega⟩⟩ ?_
    rintro n2 _ m4 _ ⟨bs, k, rfl, rfl, hn2, hbk⟩
    refine .env (by (try simp only [liE, letsOf, letU, snd, List.append_nil]); rfl) (.ite (fun h7 => ?_) (fun h7 => .again rfl ⟨(k : Int), ?_, rfl⟩)) <;> ((try simp only [evE, liE, letsOf, letU, snd] at h7); (try simp only [cmE] at h7))
    · obtain ⟨hbs, hkE, _⟩ := hbk.resolve_right (by omega)
      have hk : k < rows[rr].fs[cc].w.w.length := by omega
      subst hbs
      refine .loop (fun n us mm => ∃ (al : Bool) (i : Nat), us = [.b al, .i i] ∧ mm = m4 ∧ n + i = rows.length ∧ (al = true ↔ ∀ w ∈ (knownF (rows.take i) cc).map (·.w), SameAt k rows[rr].fs[cc].w.w[rows[rr].fs[cc].w.w.length - 1 - k] w)) rows.length ⟨true, 0, rfl, rfl, by omega, by simp [knownF]⟩ ?_
      rintro n3 _ m5 _ ⟨al, i, rfl, rfl, hn3, hal⟩
      refine .env (by (try simp only [liE, letsOf, letU, snd, List.append_nil]); rfl) (.chk (by ((try simp only [evE, liE, letsOf, letU, snd]); (try simp only [cmE])); omega) (.ite (fun h8 => ?_) (fun h8 => ?_))) <;> ((try simp only [evE, liE, letsOf, letU, snd] at h8); (try simp only [cmE] at h8))
      · have hi : i < rows.length := by omega
        have hck := hci i hi
        have hsn := knownF_snoc hi hck
        have hF2 := List.getElem_mem hck
        have hwat := hWat _ (List.getElem_mem hi) _ hF2
        have hw32 := h32 _ (List.getElem_mem hi) _ hF2
        refine .loadLD rows i hi (fun g => hT.row.reads g) (.env (by (try simp only [liE, letsOf, letU, snd, List.append_nil]); rfl) ?_)
        refine .loadFW rows[i].fs cc hck (fun g => (hT.rows _ (List.getElem_mem hi)).reads g) (.env (by (try simp only [liE, letsOf, letU, snd, List.append_nil]); rfl) ?_) (hI := e2)
        refine .join (fun us mm => ∃ x : Bool, us = [.b x] ∧ mm = m5 ∧ (x = true ↔ al = true ∧ (rows[i].fs[cc].has = true → SameAt k rows[rr].fs[cc].w.w[rows[rr].fs[cc].w.w.length - 1 - k] rows[i].fs[cc].w.w))) (.ite (fun h9 => ?_) (fun h9 => .again rfl ⟨false, rfl, rfl, ?_⟩)) ?_
        · replace h9 : al = true := h9
          refine .loadLD rows i hi (fun g => hT.row.reads g) (.env (by (try simp only [liE, letsOf, letU, snd, List.append_nil]); rfl) ?_)
          refine .loadHas rows[i].fs cc hck (fun g => (hT.rows _ (List.getElem_mem hi)).reads g) (.env (by (try simp only [liE, letsOf, letU, snd, List.append_nil]); rfl) (.ite (fun h10 => .again rfl ⟨true, rfl, rfl, ?_⟩) (fun h10 => .chk (by ((try simp only [evE, liE, letsOf, letU, snd]); (try simp only [cmE])); omega) (.ite (fun h11 => ?_) (fun h11 => .again rfl ⟨false, rfl, rfl, ?_⟩))))) (hI := e2)
          · replace h10 : (!rows[i].fs[cc].has) = true := h10
            have : rows[i].fs[cc].has = false := by simpa using h10
            simp [h9, this]
          · ((try simp only [evE, liE, letsOf, letU, snd] at h11); (try simp only [cmE] at h11))
            replace h10 : (!rows[i].fs[cc].has) = false := h10
            have hh : rows[i].fs[cc].has = true := by simpa using h10
            have hk1 : k < rows[i].fs[cc].w.w.length := by omega
            have eI : ∀ {n : Nat}, n ≤ 32 → k < n → ar .sub .i64 (ar .sub .i64 (n : Int) 1) (k : Int) = ((n - 1 - k : Nat) : Int) := fun {n} h1 h2 => by
              rw [show ar .sub .i64 (n : Int) 1 = ((n - 1 : Nat) : Int) by rw [subI (by omega) (by omega)]; omega, subI (by omega) (by omega)]; omega
            refine .chk (by ((try simp only [evE, liE, letsOf, letU, snd]); (try simp only [cmE])); omega) ?_
            refine .loadW rows[i].fs[cc].w.w (rows[i].fs[cc].w.w.length - 1 - k) (by omega) (fun g => hwat.mono g.R) (.env (by (try simp only [liE, letsOf, letU, snd, List.append_nil]); rfl) ?_) (hI := eI hw32 hk1)
            refine .loadLD rows rr hrr (fun g => hT.row.reads g) (.env (by (try simp only [liE, letsOf, letU, snd, List.append_nil]); rfl) ?_) (hI := e1)
            refine .loadFW rows[rr].fs cc hcl (fun g => (hT.rows _ (List.getElem_mem hrr)).reads g) (.env (by (try simp only [liE, letsOf, letU, snd, List.append_nil]); rfl) ?_) (hI := e2)
            refine .loadLD rows rr hrr (fun g => hT.row.reads g) (.env (by (try simp only [liE, letsOf, letU, snd, List.append_nil]); rfl) ?_) (hI := e1)
            refine .loadFW rows[rr].fs cc hcl (fun g => (hT.rows _ (List.getElem_mem hrr)).reads g) (.env (by (try simp only [liE, letsOf, letU, snd, List.append_nil]); rfl) (.chk (by ((try simp only [evE, liE, letsOf, letU, snd]); (try simp only [cmE])); omega) ?_)) (hI := e2)
            refine .loadW rows[rr].fs[cc].w.w (rows[rr].fs[cc].w.w.length - 1 - k) (by omega) (fun g => hFat.mono g.R) (.env (by (try simp only [liE, letsOf, letU, snd, List.append_nil]); rfl) (.again rfl ⟨_, rfl, rfl, ?_⟩)) (hI := eI hF32 hk)
            generalize hs : rows[rr].fs[cc].w.w[rows[rr].fs[cc].w.w.length - 1 - k]'(by omega) = s
            show (bif cm .eql ((rows[i].fs[cc].w.w[rows[i].fs[cc].w.w.length - 1 - k]'(by omega)).1 : Int) (s.1 : Int) then cm .eql ((rows[i].fs[cc].w.w[rows[i].fs[cc].w.w.length - 1 - k]'(by omega)).2 : Int) (s.2 : Int) else false) = true ↔ _
            constructor
            · intro h
              refine ⟨h9, fun _ => ⟨hk1, ?_⟩⟩
              simp [cm] at h
              exact Prod.ext (by omega) (by omega)
            · rintro ⟨_, h⟩
              obtain ⟨_, h⟩ := h hh
              rw [h]; simp [cm]
          · ((try simp only [evE, liE, letsOf, letU, snd] at h11); (try simp only [cmE] at h11))
            replace h10 : (!rows[i].fs[cc].has) = false := h10
            have hh : rows[i].fs[cc].has = true := by simpa using h10
            refine ⟨nofun, fun ⟨_, h⟩ => ?_⟩
            obtain ⟨h, _⟩ := h hh
            omega
        · replace h9 : al = false := h9
          simp [h9]
        rintro _ _ _ ⟨x, rfl, rfl, hx⟩
        refine .env (by (try simp only [liE, letsOf, letU, snd, List.append_nil]); rfl) (.again rfl ⟨n3 - 1, by omega, x, i + 1, ?_, rfl, by omega, ?_⟩)
        · (simp only [evE, liE, letsOf, letU, snd, Sh.uss, Sh.us, atAddr, map_add0, List.append_nil]); rw [add_i64 i (by omega)]
        · rw [hx, hal, hsn, List.map_append]
          constructor
          · rintro ⟨g1, g2⟩ w hw
            rcases List.mem_append.1 hw with hw | hw
            · exact g1 w hw
            · split at hw
              · rename_i hh
                simp only [List.map_cons, List.map_nil, List.mem_cons, List.not_mem_nil, or_false] at hw
                subst hw; exact g2 hh
              · simp at hw
          · intro g
            refine ⟨fun w hw => g w (List.mem_append_left _ hw), fun hh => g _ (List.mem_append_right _ ?_)⟩
            rw [if_pos hh]; simp
      rw [List.take_of_length_le (by omega)] at hal
      have hall : al = true ↔ k < E := by rw [hal, hE0]; exact endW_all hF0 (by omega) hk
      refine .ite (fun h9 => ?_) (fun h9 => ?_)
      · replace h9 : (!al) = true := h9
        have hkE2 : ¬ k < E := fun h => by rw [hall.2 h] at h9; cases h9
        refine .loadLD rows rr hrr (fun g => hT.row.reads g) (.env (by (try simp only [liE, letsOf, letU, snd, List.append_nil]); rfl) ?_) (hI := e1)
        refine .loadFW rows[rr].fs cc hcl (fun g => (hT.rows _ (List.getElem_mem hrr)).reads g) (.env (by (try simp only [liE, letsOf, letU, snd, List.append_nil]); rfl) (.chk (by ((try simp only [evE, liE, letsOf, letU, snd]); (try simp only [cmE])); omega) (.again rfl ⟨(k : Int), ?_, rfl⟩))) (hI := e2)
        (simp only [evE, liE, letsOf, letU, snd, Sh.uss, Sh.us, atAddr, map_add0, List.append_nil])
        rw [subI (by omega) (by omega), show (rows[rr].fs[cc].w.w.length : Int) - (k : Int) = ((rows[rr].fs[cc].w.w.length - E : Nat) : Int) by omega]
      · replace h9 : (!al) = false := h9
        have hkE2 : k < E := hall.1 (by simpa using h9)
        refine .join (fun us mm => ∃ b2 : Nat, us = [.i b2] ∧ mm = m5 ∧ b2 = if k + 1 = rows[rr].fs[cc].w.w.length then 0 else rows[rr].fs[cc].w.w.length) (.ite (fun h10 => .again rfl ⟨0, rfl, rfl, ?_⟩) (fun h10 => .again rfl ⟨_, rfl, rfl, ?_⟩)) ?_
        · replace h10 : cm .eql (k : Int) (ar .sub .i64 (rows[rr].fs[cc].w.w.length : Int) 1) = true := h10
          rw [subI (by omega) (by omega)] at h10
          simp only [cm, decide_eq_true_eq, beq_iff_eq] at h10
          rw [if_pos (by omega)]
        · replace h10 : cm .eql (k : Int) (ar .sub .i64 (rows[rr].fs[cc].w.w.length : Int) 1) = false := h10
          rw [subI (by omega) (by omega)] at h10
          simp only [cm, decide_eq_false_iff_not, beq_eq_false_iff_ne, ne_eq] at h10
          rw [if_neg (by omega)]
        rintro _ _ _ ⟨b2, rfl, rfl, hb2⟩
        refine .env (by (try simp only [liE, letsOf, letU, snd, List.append_nil]); rfl) (.again rfl ⟨n2 - 1, by omega, b2, k + 1, ?_, rfl, by omega, ?_⟩)
        · (simp only [evE, liE, letsOf, letU, snd, Sh.uss, Sh.us, atAddr, map_add0, List.append_nil]); rw [add_i64 k (by omega)]
        · split at hb2
          · exact .inr ⟨hb2, by omega, by omega⟩
          · exact .inl ⟨hb2, by omega, by omega⟩
    · (simp only [evE, liE, letsOf, letU, snd, Sh.uss, Sh.us, atAddr, map_add0, List.append_nil])
      rw [show bs = rows[rr].fs[cc].w.w.length - E by omega]
  rintro _ m4 _ ⟨z, rfl, rfl⟩
  refine .env (by (try simp only [liE, letsOf, letU, snd, List.append_nil]); rfl) ?_
  generalize hB : rows[rr].fs[cc].w.w.take (rows[rr].fs[cc].w.w.length - E) = base at hxs
  have hbl : base.length = rows[rr].fs[cc].w.w.length - E := by rw [← hB, List.length_take]; omega
  refine .loop (fun n us mm => ∃ (e : Bool) (i : Nat), us = [.b e, .i i] ∧ mm = m4 ∧ n + i = rows.length) rows.length ⟨e, 0, rfl, rfl, by omega⟩ ?_
  rintro n2 _ m5 _ ⟨e, i, rfl, rfl, hn2⟩
  refine .env (by (try simp only [liE, letsOf, letU, snd, List.append_nil]); rfl) (.chk (by ((try simp only [evE, liE, letsOf, letU, snd]); (try simp only [cmE])); omega) (.ite (fun h7 => ?_) (fun h7 => .callV c_works (fun g => hV.mono g.R) (.env (by (try simp only [liE, letsOf, letU, snd, List.append_nil]); rfl) (.ret rfl rfl))))) <;> ((try simp only [evE, liE, letsOf, letU, snd] at h7); (try simp only [cmE] at h7))
  have hi : i < rows.length := by omega
  have hix : i < xs.length := by omega
  obtain ⟨hfl, hlv⟩ := hxs i hi hix
  have hr4 := h4r _ (List.getElem_mem hi)
  have hx4 : xs[i].fs.length = 4 := hfl.trans hr4
  refine .loadLD xs i hix (fun g => hX.row.reads g) (.env (by (try simp only [liE, letsOf, letU, snd, List.append_nil]); rfl) (.chk (by ((try simp only [evE, liE, letsOf, letU, snd]); (try simp only [cmE])); omega) (.no ?_ ?_)))
  · show cm .neq (xs[i].fs.length : Int) 4 = false
    rw [hx4]; rfl
  refine .loop (fun n us mm => ∃ (e : Bool) (k : Nat), us = [.b e, .i k] ∧ mm = m5 ∧ n + k = 4) 4 ⟨e, 0, rfl, rfl, rfl⟩ ?_
  rintro n3 _ m6 _ ⟨e, k, rfl, rfl, hn3⟩
  refine .env (by (try simp only [liE, letsOf, letU, snd, List.append_nil]); rfl) (.ite (fun h8 => ?_) (fun h8 => .again rfl ⟨n2 - 1, by omega, e, i + 1, ?_, rfl, by omega⟩)) <;> ((try simp only [evE, liE, letsOf, letU, snd] at h8); (try simp only [cmE] at h8))
  · have hk : k < rows[i].fs.length := by omega
    have hkx : k < xs[i].fs.length := by omega
    obtain ⟨hhs, hws⟩ := hlv k hk hkx
    have hF2 := List.getElem_mem hk
    have hwat := hWat _ (List.getElem_mem hi) _ hF2
    have hw32 := h32 _ (List.getElem_mem hi) _ hF2
    have hxw := hxW i hix k hkx
    refine .loadLD rows i hi (fun g => hT.row.reads g) (.env (by (try simp only [liE, letsOf, letU, snd, List.append_nil]); rfl) (.loadFD rows[i].fs k hk (fun g => (hT.rows _ (List.getElem_mem hi)).reads g) (.env (by (try simp only [liE, letsOf, letU, snd, List.append_nil]); rfl) ?_)))
    refine .loadLD xs i hix (fun g => hX.row.reads g) (.env (by (try simp only [liE, letsOf, letU, snd, List.append_nil]); rfl) (.loadFD xs[i].fs k hkx (fun g => (hX.rows _ (List.getElem_mem hix)).1.reads g) (.env (by (try simp only [liE, letsOf, letU, snd, List.append_nil]); rfl) ?_)))
    refine .alloc fun a1 => .alloc fun a2 => .apart (fun g y hy ad had => ?_) ?_
    · simp only [List.mem_cons, List.not_mem_nil, or_false] at hy
      rcases hy with rfl | rfl
      · exact row_far hX.row rfl had
      · exact row_far ((hX.rows _ (List.getElem_mem hix)).1.row (by intro h; rw [h] at hkx; simp at hkx)) rfl had
    have hbeq : (rows[i].fs[k].has == xs[i].fs[k].has) = true := by rw [hhs]; simp
    refine .join (fun us mm => us = [.b false] ∧ mm = m6) (.ite (fun h9 => .yes hbeq ?_) (fun h9 => .yes hbeq (.ite (fun h10 => ?_) (fun h10 => .again rfl ⟨rfl, rfl⟩)))) ?_
    · replace h9 : cm .neq (i : Int) (ar .rem .i64 (IntKind.i64.wrap a) (ls.length : Int)) = true := h9
      rw [e1] at h9
      have hne : i ≠ rr := by intro h; subst h; simp [cm] at h9
      rw [if_neg (fun h => hne h.1)] at hws
      refine .callV (c_wordEqual rows[i].fs[k].w.p xs[i].fs[k].w.p rows[i].fs[k].w.cap xs[i].fs[k].w.cap rows[i].fs[k].w.w xs[i].fs[k].w.w (by omega)) (fun g => ⟨hwat.mono g.R, hxw.reads g⟩) (.env (by (try simp only [liE, letsOf, letU, snd, List.append_nil]); rfl) (.again rfl ⟨?_, rfl⟩))
      (simp only [evE, liE, letsOf, letU, snd, Sh.uss, Sh.us, atAddr, map_add0, List.append_nil])
      rw [hws, decide_eq_true rfl]; rfl
    · replace h9 : cm .neq (i : Int) (ar .rem .i64 (IntKind.i64.wrap a) (ls.length : Int)) = false := h9
      rw [e1] at h9
      have hir : i = rr := by simp [cm] at h9; omega
      replace h10 : (bif cm .eql (k : Int) (ar .rem .i64 (IntKind.i64.wrap b) 4) then true else !rows[i].fs[k].has) = true := h10
      rw [e2] at h10
      have hsame : xs[i].fs[k].w.w = rows[i].fs[k].w.w := by
        rw [hws]
        split
        · rename_i hh
          have hkc : k = cc := by
            have : cm .eql (k : Int) (cc : Int) = true := by
              cases hq : cm .eql (k : Int) (cc : Int) with
              | true => rfl
              | false => rw [hq, hh.2] at h10; cases h10
            simp [cm] at this; omega
          subst hir
          subst hkc
          unfold lvW
          rw [← hB, ← hE, List.take_append_drop]
        · rfl
      refine .callV (c_wordEqual rows[i].fs[k].w.p xs[i].fs[k].w.p rows[i].fs[k].w.cap xs[i].fs[k].w.cap rows[i].fs[k].w.w xs[i].fs[k].w.w (by omega)) (fun g => ⟨hwat.mono g.R, hxw.reads g⟩) (.env (by (try simp only [liE, letsOf, letU, snd, List.append_nil]); rfl) (.again rfl ⟨?_, rfl⟩))
      (simp only [evE, liE, letsOf, letU, snd, Sh.uss, Sh.us, atAddr, map_add0, List.append_nil])
      rw [hsame, decide_eq_true rfl]; rfl
    rintro _ m7 _ ⟨rfl, rfl⟩
    refine .env (by (try simp only [liE, letsOf, letU, snd, List.append_nil]); rfl) (.no rfl (.join (fun us mm => us = [.b false] ∧ mm = m7) (.ite (fun h9 => ?_) (fun h9 => .again rfl ⟨rfl, rfl⟩)) ?_))
    · replace h9 : (bif cm .eql (i : Int) (ar .rem .i64 (IntKind.i64.wrap a) (ls.length : Int)) then rows[i].fs[k].has else false) = true := h9
      rw [e1, pick_and, Bool.and_eq_true] at h9
      have hir : i = rr := by have := h9.1; simp [cm] at this; omega
      rw [if_pos ⟨hir, h9.2⟩] at hws
      unfold lvW at hws
      have hle : rows[rr].fs[cc].w.w.length - E ≤ xs[i].fs[k].w.w.length := by rw [hws, List.length_append]; omega
      have htk : xs[i].fs[k].w.w.take (rows[rr].fs[cc].w.w.length - E) = base := by rw [hws, ← hbl, List.take_left]
      have hc2 := hcap i hix k hkx
      have hc3 := hFok.le
      have hc1 : ∀ {n : Nat} {cp : Nat}, n ≤ cp → (bif cm .leq 0 (n : Int) then cm .leq (n : Int) (cp : Int) else false) = true := fun {n cp} h => by
        rw [pick_and, Bool.and_eq_true]
        simp only [cm, decide_eq_true_eq]
        omega
      refine .chk (by ((try simp only [evE, liE, letsOf, letU, snd]); (try simp only [cmE])); omega) (.no ?_ (.chk (hc1 (Nat.le_trans hle hc2)) ?_))
      · show cm .lss (xs[i].fs[k].w.w.length : Int) ((rows[rr].fs[cc].w.w.length - E : Nat) : Int) = false
        simp only [cm, decide_eq_false_iff_not]
        omega
      refine .loadLD rows rr hrr (fun g => hT.row.reads g) (.env (by (try simp only [liE, letsOf, letU, snd, List.append_nil]); rfl) ?_) (hI := e1)
      refine .loadFW rows[rr].fs cc hcl (fun g => (hT.rows _ (List.getElem_mem hrr)).reads g) (.env (by (try simp only [liE, letsOf, letU, snd, List.append_nil]); rfl) ?_) (hI := e2)
      refine .chk (hc1 (Nat.le_trans (Nat.sub_le _ _) hc3)) (.callV (c_wordEqual xs[i].fs[k].w.p rows[rr].fs[cc].w.p xs[i].fs[k].w.cap rows[rr].fs[cc].w.cap (xs[i].fs[k].w.w.take (rows[rr].fs[cc].w.w.length - E)) (rows[rr].fs[cc].w.w.take (rows[rr].fs[cc].w.w.length - E)) (by rw [List.length_take]; omega)) (fun g => ⟨WordAt.upto (x := xs[i].fs[k].w) (hxw.reads g) _, WordAt.upto (x := rows[rr].fs[cc].w) (hFat.mono g.R) _⟩) (.env (by (try simp only [liE, letsOf, letU, snd, List.append_nil]); rfl) (.again rfl ⟨?_, rfl⟩)) (hargs := ?_))
      · (simp only [evE, liE, letsOf, letU, snd, Sh.uss, Sh.us, atAddr, map_add0, List.append_nil])
        rw [htk, hB, decide_eq_true rfl]; rfl
      · show [SV.den _ _ _, SV.den _ _ _] = _
        rw [den_upto (x := xs[i].fs[k].w) (n := rows[rr].fs[cc].w.w.length - E) rfl rfl rfl hle, den_upto (x := rows[rr].fs[cc].w) (n := rows[rr].fs[cc].w.w.length - E) rfl rfl rfl (Nat.sub_le _ _)]
        rfl
    rintro _ m8 _ ⟨rfl, rfl⟩
    exact .env (by (try simp only [liE, letsOf, letU, snd, List.append_nil]); rfl) (.no rfl (.again rfl ⟨n3 - 1, by omega, e, k + 1, by (simp only [evE, liE, letsOf, letU, snd, Sh.uss, Sh.us, atAddr, map_add0, List.append_nil]); rw [add_i64 k (by omega)], rfl, by omega⟩))
  · (simp only [evE, liE, letsOf, letU, snd, Sh.uss, Sh.us, atAddr, map_add0, List.append_nil]); rw [add_i64 i (by omega)]
end Go.Proofs.YtpbbnmjkbfbelaaDoor
