/- Chapter 30: Clone; a store of a word into a row of forms. -/
import Derived.Test.YtpbbnmjkbfbelaaDoorJr
import Derived.WalkSpells
set_option linter.unusedSimpArgs false
set_option linter.unusedVariables false
namespace Go.Sy
open Go Go.RowKit
theorem run_slnil {P : Program} {t e ty : TypeId} {x y : Operand} {z : TypeId} {q : Option Addr} {n cap : Nat} {w : World} (h : P.underlying t = some (.slice e)) : (XOp.sem (.binOp .eql t x y z) ty [slv q n cap, .slice none 0 0]).run P w = .ok (.value (.bool q.isNone)) w := by
  show (do pure (Next.value (← (do eqGuard .eql t x y (slv q n cap) (.slice none 0 0); binOp .eql t (slv q n cap) (.slice none 0 0)))) : Sem Next).run P w = _
  have h1 : (eqGuard .eql t x y (slv q n cap) (.slice none 0 0)).run P w = .ok () w := by cases q <;> rfl
  have h2 : (binOp .eql t (slv q n cap) (.slice none 0 0)).run P w = .ok (.bool q.isNone) w := by
    rw [show slv q n cap = Value.slice q n cap by cases q <;> rfl]
    simp only [binOp]
    simp [Op.equal, Op.maxDepth, Lib.run_equalIn_slice_nil w 9999 t e q n cap 0 0 h]
  simp only [Sem.run_bind, h1, Result.andThen_ok, h2]
  rfl
section
variable {P : Program} {c : Cx} {L : List Nat} {ρ : Env} {blks : List Blk} {m : Mem} {R : Value → HW → Prop} {Dn : Nat → List U → HW → Prop} {A : List (List U → HW → Prop)}
/-- A slice is compared with nil. -/
theorem DenM.isNil {t e ty : TypeId} {x y : Operand} {z : TypeId} {sv : SV} {k : Tree} (q : Option Addr) (n cap : Nat) (h : P.underlying t = some (.slice e)) (hk : DenM P R Dn k L (ρ ++ [.b q.isNone]) c m A) (hv : sv.den L ρ = slv q n cap := by rfl) : DenM P R Dn (.extp ⟨.binOp .eql t x y z, ty, [sv, .cst (.slice none 0 0)]⟩ .bool blks k) L ρ c m A := .extp [.b q.isNone] ⟨_, rfl⟩ (fun g w hw => by
  have e1 := getElem_env ρ [.b q.isNone] 0
  rw [Nat.add_zero] at e1
  simp only [SV.dens, Sh.fresh, SV.den, BT.eval, Env.bool]
  rw [hv, e1]
  exact run_slnil h) hk
/-- A word is stored into a form of a row, at a place that is checked twice. -/
theorem DenM.storeFW {i : Nat} {I len : IT} {x : SV} {k : Tree} {q : Option Addr} {cap : Nat} {l : List FD} (w : WD) (j : Nat) (hj : j < l.length) (hR : Row m 41 2 q cap l.length (fcells l)) (hx : x.den L ρ = w.v) (hk : ∀ m' g, q = some ⟨g, 0, none⟩ → Row m' 41 2 q cap l.length (fcells (l.set j ⟨l[j].has, w⟩)) → (∀ b, b ≠ g → m' b = m b) → DenM P R Dn k L ρ c m' A)
    (hp : ρ.ptr i = q := by rfl) (hI : I.eval ρ = (j : Int) := by rfl) (hn : len.eval ρ = (l.length : Int) := by rfl) :
    DenM P R Dn (.chk (.pick (.cmp .geq I (.lit 0)) (.pick (.cmp .lss I len) (.some i) (.lit false)) (.lit false)) (.chk (.pick (.cmp .geq (.off I 2 (.lit 0)) (.lit 0)) (.some i) (.lit false)) (.store false i (.off (.lit 1) 1 (.off I 2 (.lit 0))) [x] blks k))) L ρ c m A := by
  rcases hR.2 with ⟨_, h, _⟩ | ⟨g, cur, hq, hg, h1, h2, h3, h4⟩
  · omega
  · subst hq
    have hlen := hR.1
    have hset : fcells (l.set j ⟨l[j].has, w⟩) = (fcells l).set (j * 2 + 1) w.v := by
      have : ∀ (l : List FD) (j : Nat) (hj : j < l.length), fcells (l.set j ⟨l[j].has, w⟩) = (fcells l).set (j * 2 + 1) w.v := fun l => by
        induction l with
        | nil => intro j hj; simp at hj
        | cons y l ih =>
          intro j hj
          cases j with
          | zero => rfl
          | succ j =>
            have := ih j (by simpa using hj)
            simp only [fcells, List.set_cons_succ, List.flatMap_cons, List.cons_append, List.nil_append, List.getElem_cons_succ] at this ⊢
            rw [this, show (j + 1) * 2 = (j * 2 + 1) + 1 by omega, List.set_cons_succ]
      exact this l j hj
    refine .chk ?_ (.chk ?_ (.store g (j * 2 + 1) cur 41 rfl ?_ hg (by simp; omega) (hk _ g rfl ⟨by rw [hset, List.length_set]; exact hlen, .inr ⟨g, _, rfl, Mem.upd_same _ _ _, h1, h2, ?_, ?_⟩⟩ fun b hb => Mem.upd_other _ _ hb)))
    · simp only [BT.eval, IT.eval, hI, hn, hp, cm, pick_and]; simp; omega
    · simp only [BT.eval, IT.eval, hI, hp, cm, pick_and]; simp; omega
    · simp only [atAddr, hp, IT.eval, hI, Option.map_some, addr_add]
      rw [show ((0 : Int) + (j : Int) * ((2 : Nat) : Int) + (1 : Int) * ((1 : Nat) : Int)).toNat = j * 2 + 1 by omega]; simp
    · simp only [putAt, SV.dens, List.size_toArray, List.length_append, List.length_take, List.length_drop, List.length_cons, List.length_nil, Array.length_toList]; omega
    · have hput : putAt cur.toList (j * 2 + 1) (SV.dens L ρ [x]) = cur.toList.set (j * 2 + 1) (x.den L ρ) := by
        unfold putAt
        rw [List.set_eq_take_append_cons_drop, if_pos (by simp; omega)]
        simp [SV.dens]
      rw [hput, List.take_set, h4, hset, hx]
end
end Go.Sy
namespace Go.Proofs.YtpbbnmjkbfbelaaDoor
open Go Go.Sy Go.RowKit
theorem el39 : El Tryd.prog 39 41 2 32 := El.of (by kernel_rfl)
theorem el42 : El Tryd.prog 42 39 1 24 := El.of (by kernel_rfl)
theorem el38 : El Tryd.prog 38 39 1 24 := El.of (by kernel_rfl)
theorem fcells_one (l : List FD) : ∀ u ∈ fcells l, u.oneCell' = true := fun u hu => by
  obtain ⟨x, _, hx⟩ := List.mem_flatMap.1 hu
  simp only [List.mem_cons, List.not_mem_nil, or_false] at hx
  rcases hx with rfl | rfl
  · rfl
  · unfold WD.v slv; cases x.w.p <;> rfl
theorem c_cloneS (X : WD) (ox : X.ok) (lx : X.w.length < 2 ^ 40) : FnM Tryd.prog n_slices_Clone___api_Sound_api_Sound_ [X.v] (fun R => WordAt R X.p X.w) fun v mq _ => ∃ q cq, v = slv q X.w.length cq ∧ RowW mq 31 q cq X.w := by
  refine FnM.of S_slices_Clone___api_Sound_api_Sound_ mx [.p X.p, .i X.w.length, .i X.cap] rfl rfl fun c hp => .isNil X.p X.w.length X.cap Tryd.underlying22 (.env (by (try simp only [liE, letsOf, letU, snd, List.append_nil]); rfl) (.ite (fun h1 => .ret rfl ?_) (fun h1 => .alloc fun b0 => ?_)))
  · replace h1 : X.p.isNone = true := h1
    have h2 := ox.nil (by simpa using h1)
    have h3 : X.w.length = 0 := by have := ox.le; omega
    have : X.w = [] := List.length_eq_zero_iff.1 h3
    rw [this]
    exact ⟨none, 0, rfl, .of (Row.nil _ _ _)⟩
  · refine .appendLit (b0 := b0) (qx := X.p) (kx := X.w.length) (capx := X.cap) (news := wcells X.w) el22 (fun g => hp.mono g.R) (wcells_len _) (wcells_one _) ox.nil (by simp [maxLen]; omega) (by omega) (fun q1 k1 m1 hr1 h01 _ => .env (by (try simp only [liE, letsOf, letU, snd, List.append_nil]); rfl) (.ret rfl ⟨q1, k1, rfl, fun hne => ?_, fun hq => ?_, ?_⟩))
    · exact hr1 fun h => hne (List.length_eq_zero_iff.1 h)
    · by_cases h : X.w.length = 0
      · exact (h01 h).2
      · exact row_cap0 (hr1 h) hq
    · by_cases h : X.w.length = 0
      · omega
      · exact (hr1 h).cap_le
theorem c_cloneF (q : Option Addr) (cq : Nat) (l : List FD) (hle : l.length ≤ cq) (hnil : q = none → cq = 0) (hl : l.length < 2 ^ 38) : FnM Tryd.prog n_slices_Clone___api_Form_api_Form_ [slv q l.length cq] (fun R => Cells R q (fcells l)) fun v mq _ => ∃ q' cq', v = slv q' l.length cq' ∧ (l ≠ [] → Row mq 41 2 q' cq' l.length (fcells l)) ∧ l.length ≤ cq' ∧ (q' = none → cq' = 0) := by
  refine FnM.of S_slices_Clone___api_Form_api_Form_ mx [.p q, .i l.length, .i cq] rfl rfl fun c hp => .isNil q l.length cq Tryd.underlying39 (.env (by (try simp only [liE, letsOf, letU, snd, List.append_nil]); rfl) (.ite (fun h1 => .ret rfl ?_) (fun h1 => .alloc fun b0 => ?_)))
  · replace h1 : q.isNone = true := h1
    have h2 := hnil (by simpa using h1)
    have : l = [] := List.length_eq_zero_iff.1 (by omega)
    rw [this]
    exact ⟨none, 0, rfl, fun h => absurd rfl h, Nat.le_refl _, fun _ => rfl⟩
  · refine .appendLit (b0 := b0) (qx := q) (kx := l.length) (capx := cq) (news := fcells l) el39 (fun g => hp.mono g.R) (fcells_len _) (fcells_one _) hnil (by simp [maxLen]; omega) (by omega) (fun q1 k1 m1 hr1 h01 _ => .env (by (try simp only [liE, letsOf, letU, snd, List.append_nil]); rfl) (.ret rfl ⟨q1, k1, rfl, fun hne => ?_, ?_, fun hq => ?_⟩))
    · exact hr1 fun h => hne (List.length_eq_zero_iff.1 h)
    · by_cases h : l.length = 0
      · omega
      · exact (hr1 h).cap_le
    · by_cases h : l.length = 0
      · exact (h01 h).2
      · exact row_cap0 (hr1 h) hq
end Go.Proofs.YtpbbnmjkbfbelaaDoor
