/- The reference's Dist, Ratio, Near and Matrix. -/
import Derived.Test.YtedfogpnmpmggaaDoorHi
import Derived.Test.YtedfogpnmpmggaaDoorGi
import Derived.Test.YtedfogpnmpmggaaDoorHe
set_option linter.unusedSimpArgs false
set_option linter.unusedVariables false
namespace Go.Sy
open Go Go.RowKit
theorem Tab.joinR {m mq : Mem} {eo ei : TypeId} {kd : IntKind} {q : Option Addr} {cap : Nat} {rs : List RD} (h : Tab mq eo ei kd q cap rs) (hf : ∀ b, mq b ≠ none → m b = none) : Tab (m.join mq) eo ei kd q cap rs := h.keep fun b hb => Mem.join_new (hf b hb)
theorem Mem.join_old {m mq : Mem} {b : Nat} (h : m b ≠ none) : m.join mq b = m b := by
  cases hm : m b with
  | none => exact absurd hm h
  | some o => exact Mem.join_at hm
section
variable {P : Program} {c : Cx} {L : List Nat} {ρ : Env} {blks : List Blk} {m : Mem} {R : Value → HW → Prop} {Dn : Nat → List U → HW → Prop} {A : List (List U → HW → Prop)}
/-- The first element of a row. -/
theorem DenM.first {i : Nat} {len : IT} {s : Sh} {k : Tree} (v : Value) (xs : List Value) (n : Nat) (hn : len.eval ρ = (n : Int)) (hj : 0 < n) (hc : Good c L m → Cells (vw c L ρ blks m) (ρ.ptr i) xs) (hx : xs[0]? = some v)
    (hk : DenM P R Dn k L (ρ ++ letU v) c m A) (hus : Sh.eats [s] (letU v) = some []) (hv : SV.dens L (ρ ++ letU v) (Sh.freshs [s] ρ.length).1 = [v]) :
    DenM P R Dn (.chk (.pick (.cmp .lss (.lit 0) len) (.some i) (.lit false)) (.load i (.lit 0) [s] blks k)) L ρ c m A := fun g => by
  obtain ⟨b, o, hpe⟩ := (hc g).some (List.getElem?_eq_some_iff.1 hx).1
  refine (DenM.chk ?_ (DenM.loadC (letU v) (ρ.ptr i) xs 0 rfl rfl hus hc (List.getElem?_eq_some_iff.1 hx).1 (fun q w hw => ?_) hk)) g
  · simp only [BT.eval, IT.eval, hn, hpe, cm, pick_and]
    simp; omega
  · rw [hv] at hw
    cases q with
    | zero => simp at hw; subst hw; simpa using hx
    | succ q => simp at hw
/-- The first element of a table. -/
theorem DenM.first2 {i i2 : Nat} {len len2 : IT} {bl2 : List Blk} {k : Tree} {eo ei : TypeId} {kd : IntKind} {q : Option Addr} {cap : Nat} {rs : List RD} (hT : Tab m eo ei kd q cap rs) (r : RD) (v : Int) (hr : rs[0]? = some r) (hv : r.v[0]? = some v) (hk : DenM P R Dn k L (ρ ++ [.p r.p, .i r.v.length, .i r.cap] ++ [.i v]) c m A)
    (hp : ρ.ptr i = q) (hn : len.eval ρ = (rs.length : Int)) (h2 : Env.ptr (ρ ++ [.p r.p, .i r.v.length, .i r.cap]) i2 = r.p) (hl2 : len2.eval (ρ ++ [.p r.p, .i r.v.length, .i r.cap]) = (r.v.length : Int)) :
    DenM P R Dn (.chk (.pick (.cmp .lss (.lit 0) len) (.some i) (.lit false)) (.load i (.lit 0) [.sl] blks (.chk (.pick (.cmp .lss (.lit 0) len2) (.some i2) (.lit false)) (.load i2 (.lit 0) [(.int kd)] bl2 k)))) L ρ c m A := fun g => by
  obtain ⟨hx, rfl⟩ := List.getElem?_eq_some_iff.1 hr
  obtain ⟨hy, rfl⟩ := List.getElem?_eq_some_iff.1 hv
  have hc : Cells (vw c L ρ blks m) (ρ.ptr i) (rs.map RD.s) := by rw [hp]; exact hT.out.reads g
  obtain ⟨b, o, hpe⟩ := hc.some (i := 0) (by simpa using hx)
  refine (DenM.chk ?_ (DenM.loadC [.p rs[0].p, .i rs[0].v.length, .i rs[0].cap] (ρ.ptr i) (rs.map RD.s) 0 rfl rfl rfl (fun _ => hc) (by simpa using hx) (fun q' v hv => ?_) (.first (.int kd rs[0].v[0]) (rs[0].v.map (.int kd)) rs[0].v.length hl2 hy (fun g => by rw [h2]; exact (hT.inn _ (List.getElem_mem hx)).reads g) (by simp [hy]) hk rfl ?_))) g
  · simp only [BT.eval, IT.eval, hn, hpe, cm, pick_and]
    simp; omega
  · match q', hv with
    | 0, hv =>
      simp only [Sh.freshs, SV.dens] at hv
      rw [slv_fresh] at hv
      simp only [List.getElem?_cons_zero, Option.some.injEq] at hv
      rw [← hv]
      simp [hx, RD.s]
    | q' + 1, hv => simp [Sh.freshs, SV.dens] at hv
  · simp only [Sh.freshs, Sh.fresh, SV.dens, SV.den, IT.eval, letU, int_at]
end
theorem rows_of {rs : List RD} {f : Nat → List Int} {n : Nat} (h : rs.map (·.v) = (List.range n).map f) : rs.length = n ∧ ∀ i, i < n → ∃ r, rs[i]? = some r ∧ r.v = f i := by
  have hl : rs.length = n := by simpa using congrArg List.length h
  refine ⟨hl, fun i hi => ⟨rs[i], by simp [hl, hi], ?_⟩⟩
  have := congrArg (·[i]?) h
  simpa [hl, hi] using this
theorem dC_self {ws : List Int} {gap : Int} (x : Snd) : dC ws gap x x = 0 := by
  unfold dC distC
  split
  · rfl
  · split
    · rfl
    · simp only
      rw [show diffS x x = 0 by unfold diffS; simp]
      exact sumW_none ws
end Go.Sy
namespace Go.Proofs.YtedfogpnmpmggaaDoor
open Go Go.Sy Go.RowKit
section
variable {c : Cx} {L : List Nat} {ρ : Env} {blks : List Blk} {m : Mem} {R : Value → HW → Prop} {Dn : Nat → List U → HW → Prop} {A : List (List U → HW → Prop)}
/-- The smallest cost of all, by the table of rests. -/
theorem _root_.Go.Sy.DenM.rest00 {args : List SV} {i1 i2 n1 n2 : Nat} {bl2 bl3 : List Blk} {k : Tree} (A' B' : WD) (pc : Option Addr) (cc : Nat) (ws : List Int) (gap : Int) (ha : Wok A'.w) (hb : Wok B'.w) (hc : checkE ws gap [A'.w, B'.w] = 0) (hs : scBlks ρ.length blks = true)
    (hpre : Good c L m → WordAt (vw c L ρ blks m) A'.p A'.w ∧ WordAt (vw c L ρ blks m) B'.p B'.w ∧ CostsAt (vw c L ρ blks m) pc ws)
    (hk : ∀ q cq q' c' m', (∀ b, m b ≠ none → m' b = m b) → DenM Tryd.prog R Dn k L (ρ ++ [.p q, .i (A'.w.length + 1 : Nat), .i (cq : Nat)] ++ [.p q', .i (B'.w.length + 1 : Nat), .i (c' : Nat)] ++ [.i (rst (dC ws gap) gap A'.w B'.w)]) c m' A)
    (hargs : SV.dens L ρ args = [A'.v, B'.v, costs pc ws.length cc gap] := by rfl) (h1 : i1 = ρ.length := by rfl) (h2 : n1 = ρ.length + 1 := by rfl) (h3 : i2 = ρ.length + 3 := by rfl) (h4 : n2 = ρ.length + 4 := by rfl) :
    DenM Tryd.prog R Dn (.call false n_ref17_rest args .sl blks (.chk (.pick (.cmp .lss (.lit 0) (.var n1)) (.some i1) (.lit false)) (.load i1 (.lit 0) [.sl] bl2 (.chk (.pick (.cmp .lss (.lit 0) (.var n2)) (.some i2) (.lit false)) (.load i2 (.lit 0) [(.int .i64)] bl3 k))))) L ρ c m A := by
  refine .callM (c_ref17rest A' B' pc cc ws gap ha hb hc) hargs hs hpre ?_
  rintro v mq hf ⟨q, cq, rs, rfl, hT, hrs⟩
  refine ⟨[.p q, .i (A'.w.length + 1 : Nat), .i cq], ⟨_, _, _, rfl⟩, (slv_fresh _ _ _ _ _).symm, ?_⟩
  obtain ⟨hl, hat⟩ := rows_of hrs
  obtain ⟨r, hr, hrv⟩ := hat 0 (by omega)
  have hlen : r.v.length = B'.w.length + 1 := by rw [hrv]; simp [restRow]
  have h0 : r.v[0]? = some (rst (dC ws gap) gap A'.w B'.w) := by rw [hrv, restRow_at (by omega)]; rfl
  refine .first2 (hT.joinR fun b hb => (hf b hb).1) r _ hr h0 ?_ ?_ ?_ ?_ ?_
  · have := hk q cq r.p r.cap (m.join mq) fun b hb => Mem.join_old hb
    rw [hlen]; exact this
  · subst h1; simp [Env.ptr]
  · subst h2; simp [IT.eval, Env.int, hl]
  · subst h3; simp [Env.ptr]
  · subst h4; simp [IT.eval, Env.int]
end
theorem checkE_pair {ws : List Int} {gap : Int} {a b : List Snd} (hc : checkC ws gap = 0) (ha : checkW a = 0) (hb : checkW b = 0) : checkE ws gap [a, b] = 0 := checkE_mk hc fun x hx => by
  simp only [List.mem_cons, List.not_mem_nil, or_false] at hx
  rcases hx with rfl | rfl
  · exact ha
  · exact hb
theorem c_refDist17 (A B : WD) (pc : Option Addr) (cc : Nat) (ws : List Int) (gap : Int) (ha : Wok A.w) (hb : Wok B.w) :
    RetP Tryd.prog n_ref17_Dist [A.v, B.v, costs pc ws.length cc gap] (fun R => WordAt R A.p A.w ∧ WordAt R B.p B.w ∧ CostsAt R pc ws) (.tuple #[.int .i64 (distE ws gap A.w B.w).1, .int .i64 (distE ws gap A.w B.w).2]) := by
  obtain ⟨pa, ca, a⟩ := A
  obtain ⟨pb, cb, b⟩ := B
  simp only [] at ha hb
  refine Fn.of S_ref17_Dist mx [.p pa, .i a.length, .i ca, .p pb, .i b.length, .i cb, .p pc, .i ws.length, .i cc, .i gap] rfl rfl fun c hp => .alloc fun b0 => .alloc fun b1 => ?_
  refine .callV (c_ref17Check pc cc ws gap (some ⟨b1, 0, none⟩) 2 [⟨pa, ca, a⟩, ⟨pb, cb, b⟩] (by simp [ha, hb]) (by simp)) (fun g => ⟨hp.2.2.mono g.R, g.cells (j := 1) rfl rfl rfl, ?_⟩) (.ite (fun h1 => .ret rfl ?_) (fun h1 => ?_))
  · simp only [List.mem_cons, List.not_mem_nil, or_false]
    rintro x (rfl | rfl)
    · exact hp.1.mono g.R
    · exact hp.2.1.mono g.R
  · ((try simp only [evE, liE, letsOf, letU, snd] at h1); (try simp only [cmE] at h1))
    replace h1 : checkE ws gap [a, b] ≠ 0 := h1
    unfold distE
    rw [if_pos h1]; ((try simp only [evE, liE, letsOf, letU, snd]); (try simp only [cmE])); rfl
  ((try simp only [evE, liE, letsOf, letU, snd] at h1); (try simp only [cmE] at h1))
  replace h1 : checkE ws gap [a, b] = 0 := h1
  rw [show checkE ws gap (List.map (fun x : WD => x.w) [⟨pa, ca, a⟩, ⟨pb, cb, b⟩]) = 0 from h1]
  refine .env (by (try simp only [liE, letsOf, letU, snd, List.append_nil]); rfl) (.rest00 ⟨pa, ca, a⟩ ⟨pb, cb, b⟩ pc cc ws gap ha hb h1 rfl (fun g => ⟨hp.1.mono g.R, hp.2.1.mono g.R, hp.2.2.mono g.R⟩) fun q cq q' c' m' hk => .ret rfl ?_)
  unfold distE
  rw [if_neg (by simp [h1])]
  rfl
theorem c_lowest17 (n d : Int) (hn : 0 ≤ n ∧ n ≤ 9223372036854775807) (hd : 0 < d ∧ d ≤ 9223372036854775807) : Ret Tryd.prog n_ref17_Lowest [.int .i64 n, .int .i64 d] (.agg #[.int .i64 (lowest n d).1, .int .i64 (lowest n d).2]) := by
  refine Fn.of S_ref17_Lowest mx [.i n, .i d] rfl rfl fun c _ => .alloc fun _ => ?_
  refine .loop (fun k us _ => ∃ x y : Int, us = [.i x, .i y] ∧ 0 ≤ x ∧ 0 ≤ y ∧ y = (k : Int) ∧ gcdI x y = gcdI n d) d.toNat ⟨n, d, rfl, hn.1, by omega, by omega, rfl⟩ ?_
  rintro k _ m _ ⟨x, y, rfl, hx, hy, hyn, hgc⟩
  refine .ite (fun h3 => .chk h3 (.again rfl ⟨(x.tmod y).toNat, ?_, y, x.tmod y, ?_, by omega, ?_, ?_, ?_⟩)) (fun h3 => ?_) <;> ((try simp only [evE, liE, letsOf, letU, snd] at h3); (try simp only [cmE] at h3))
  · have := Int.tmod_lt_of_pos x (by omega : 0 < y)
    have := Int.tmod_nonneg y hx
    omega
  · (simp only [evE, liE, letsOf, letU, snd, Sh.uss, Sh.us, atAddr, map_add0, List.append_nil]); rfl
  · exact Int.tmod_nonneg y hx
  · have := Int.tmod_nonneg y hx
    omega
  · rw [gcdI_step hx (by omega), hgc]
  · have hy0 : y = 0 := by omega
    subst hy0
    rw [gcdI_zero hx] at hgc
    have hp := gcd_pos (n := n) (d := d) (by omega)
    rw [← hgc] at hp
    refine .chk (by ((try simp only [evE, liE, letsOf, letU, snd]); (try simp only [cmE])); omega) (.chk (by ((try simp only [evE, liE, letsOf, letU, snd]); (try simp only [cmE])); omega) (.ret rfl ?_))
    have q1 : ar .quo .i64 n x = n.tdiv x := by
      have a1 := Int.tdiv_nonneg hn.1 (Int.le_of_lt hp)
      have a2 := Int.tdiv_le_self (b := x) hn.1
      exact wrap_i64 (by omega) (by omega)
    have q2 : ar .quo .i64 d x = d.tdiv x := by
      have a1 := Int.tdiv_nonneg (by omega : 0 ≤ d) (Int.le_of_lt hp)
      have a2 := Int.tdiv_le_self (b := x) (by omega : 0 ≤ d)
      exact wrap_i64 (by omega) (by omega)
    show Value.agg #[.int .i64 (ar .quo .i64 n x), .int .i64 (ar .quo .i64 d x)] = _
    rw [q1, q2]
    unfold lowest
    rw [hgc]
theorem c_refRatio (A B : WD) (pc : Option Addr) (cc : Nat) (ws : List Int) (gap : Int) (ha : Wok A.w) (hb : Wok B.w) :
    RetP Tryd.prog n_ref17_Ratio [A.v, B.v, costs pc ws.length cc gap] (fun R => WordAt R A.p A.w ∧ WordAt R B.p B.w ∧ CostsAt R pc ws) (.tuple #[.agg #[.int .i64 (ratioE ws gap A.w B.w).1.1, .int .i64 (ratioE ws gap A.w B.w).1.2], .int .i64 (ratioE ws gap A.w B.w).2]) := by
  obtain ⟨pa, ca, a⟩ := A
  obtain ⟨pb, cb, b⟩ := B
  simp only [] at ha hb
  refine Fn.of S_ref17_Ratio mx [.p pa, .i a.length, .i ca, .p pb, .i b.length, .i cb, .p pc, .i ws.length, .i cc, .i gap] rfl rfl fun c hp => .alloc fun _ => .alloc fun _ => .callV (c_refDist17 ⟨pa, ca, a⟩ ⟨pb, cb, b⟩ pc cc ws gap ha hb) (fun g => ⟨hp.1.mono g.R, hp.2.1.mono g.R, hp.2.2.mono g.R⟩) ?_
  simp only []
  unfold ratioE
  rw [← distE_eq]
  generalize hde : distE ws gap a b = de
  refine .env (by (try simp only [liE, letsOf, letU, snd, List.append_nil]); rfl) (.ite (fun h1 => .ret rfl ?_) (fun h1 => ?_)) <;> ((try simp only [evE, liE, letsOf, letU, snd] at h1); (try simp only [cmE] at h1))
  · rw [if_pos h1]; ((try simp only [evE, liE, letsOf, letU, snd]); (try simp only [cmE]))
  rw [if_neg (by simp [h1])]
  have he : checkE ws gap [a, b] = 0 := by
    refine Classical.byContradiction fun hn => ?_
    rw [← hde] at h1
    unfold distE at h1
    rw [if_pos hn] at h1
    exact hn h1
  obtain ⟨hc, ⟨la, va⟩, lb, vb⟩ := checkE_two he
  have hg := (checkC_zero hc).2
  have hd1 : de.1 = rst (dC ws gap) gap a b := by rw [← hde]; unfold distE; rw [if_neg (by simp [he])]; rfl
  have hr0 : 0 ≤ de.1 := by rw [hd1]; exact rst_pos hg.1 (fun x y => (distC_pos hc).1) a b
  have hr1 : de.1 ≤ gap * ((a.length : Int) + b.length) := by
    rw [hd1]
    have := rst_le (d := dC ws gap) (g := gap) a b
    rwa [Int.natCast_add] at this
  have hm1 : gap * ((a.length : Int) + b.length) ≤ 1073741824 * 64 := Int.le_trans (Int.mul_le_mul_of_nonneg_right hg.2.1 (by omega)) (by omega)
  have hm0 : 0 ≤ gap * ((a.length : Int) + b.length) := Int.mul_nonneg hg.1 (by omega)
  have e1 : ar .add .i64 (a.length : Int) (b.length : Int) = (a.length : Int) + b.length := addI (by omega) (by omega)
  have e2 : ar .mul .i64 gap (ar .add .i64 (a.length : Int) (b.length : Int)) = gap * ((a.length : Int) + b.length) := by rw [e1]; exact mulI (by omega) (by omega)
  generalize gap * ((a.length : Int) + b.length) = d at *
  refine .chk (by ((try simp only [evE, liE, letsOf, letU, snd]); (try simp only [cmE])); omega) (.chk (by ((try simp only [evE, liE, letsOf, letU, snd]); (try simp only [cmE])); omega) (.ite (fun h2 => .ret rfl ?_) (fun h2 => ?_)))
  · replace h2 : (ar .mul .i64 gap (ar .add .i64 (a.length : Int) (b.length : Int)) == 0) = true := h2
    rw [e2] at h2
    rw [if_pos (by simpa using h2)]; ((try simp only [evE, liE, letsOf, letU, snd]); (try simp only [cmE]))
  · replace h2 : (ar .mul .i64 gap (ar .add .i64 (a.length : Int) (b.length : Int)) == 0) = false := h2
    rw [e2] at h2
    have hd0 : d ≠ 0 := by simpa using h2
    rw [if_neg hd0]
    exact .callV (c_lowest17 de.1 d (by omega) (by omega)) (fun _ => trivial) (.ret rfl rfl) (hargs := by show [Value.int .i64 de.1, Value.int .i64 (ar .mul .i64 gap (ar .add .i64 (a.length : Int) (b.length : Int)))] = _; rw [e2])
theorem c_refNear (W : WD) (ql : Option Addr) (cl : Nat) (l : List WD) (pc : Option Addr) (cc : Nat) (ws : List Int) (gap : Int) (hw : Wok W.w) (hl : ∀ x ∈ l, Wok x.w) (hll : l.length < 2 ^ 62) :
    RetP Tryd.prog n_ref17_Near [W.v, slv ql l.length cl, costs pc ws.length cc gap] (fun R => WordAt R W.p W.w ∧ WordsAt R ql l ∧ CostsAt R pc ws) (.tuple #[.int .i64 (nearE ws gap W.w (l.map (·.w))).1, .int .i64 (nearE ws gap W.w (l.map (·.w))).2.1, .int .i64 (nearE ws gap W.w (l.map (·.w))).2.2]) := by
  obtain ⟨pw, cw, w⟩ := W
  simp only [] at hw
  refine Fn.of S_ref17_Near mx [.p pw, .i w.length, .i cw, .p ql, .i l.length, .i cl, .p pc, .i ws.length, .i cc, .i gap] rfl rfl fun c hp => .alloc fun b0 => .alloc fun b1 => ?_
  obtain ⟨hp1, hp2, hp3⟩ := hp
  refine .callV (c_ref17Check pc cc ws gap (some ⟨b1, 0, none⟩) 1 [⟨pw, cw, w⟩] (by simp [hw]) (by simp)) (fun g => ⟨hp3.mono g.R, g.cells (j := 1) rfl rfl rfl, ?_⟩) (.ite (fun h1 => .ret rfl ?_) (fun h1 => .chk (by ((try simp only [evE, liE, letsOf, letU, snd]); (try simp only [cmE])); omega) (.ite (fun h2 => .ret rfl ?_) (fun h2 => .callV (c_ref17Check pc cc ws gap ql cl l hl hll) (fun g => ⟨hp3.mono g.R, hp2.mono g.R⟩) (.ite (fun h3 => .ret rfl ?_) (fun h3 => .chk (by ((try simp only [evE, liE, letsOf, letU, snd]); (try simp only [cmE])); omega) (.ite (fun h4 => .ret rfl ?_) (fun h4 => ?_))))))))
  · simp only [List.mem_cons, List.not_mem_nil, or_false]
    rintro x rfl
    exact hp1.mono g.R
  all_goals ((try simp only [evE, liE, letsOf, letU, snd] at h1); (try simp only [cmE] at h1))
  · replace h1 : checkE ws gap [w] ≠ 0 := h1
    unfold nearE
    rw [if_pos h1]; ((try simp only [evE, liE, letsOf, letU, snd]); (try simp only [cmE])); rfl
  all_goals
    replace h1 : checkE ws gap [w] = 0 := h1
    ((try simp only [evE, liE, letsOf, letU, snd] at h2); (try simp only [cmE] at h2))
  · unfold nearE
    rw [if_neg (by simp [h1]), if_pos (by rw [List.length_map]; omega)]; ((try simp only [evE, liE, letsOf, letU, snd]); (try simp only [cmE])); rfl
  all_goals ((try simp only [evE, liE, letsOf, letU, snd] at h3); (try simp only [cmE] at h3))
  · unfold nearE
    rw [if_neg (by simp [h1]), if_neg (by rw [List.length_map]; omega), if_pos h3]; ((try simp only [evE, liE, letsOf, letU, snd]); (try simp only [cmE])); rfl
  all_goals ((try simp only [evE, liE, letsOf, letU, snd] at h4); (try simp only [cmE] at h4))
  · unfold nearE
    rw [if_neg (by simp [h1]), if_neg (by rw [List.length_map]; omega), if_neg (by simp [h3]), if_pos (by rw [List.length_map]; omega)]; ((try simp only [evE, liE, letsOf, letU, snd]); (try simp only [cmE])); rfl
  have hspec : nearE ws gap w (l.map (·.w)) = ((nearGo 0 0 0 ((l.map (·.w)).map fun x => rst (dC ws gap) gap w x)).1, (nearGo 0 0 0 ((l.map (·.w)).map fun x => rst (dC ws gap) gap w x)).2, 0) := by
    unfold nearE
    rw [if_neg (by simp [h1]), if_neg (by rw [List.length_map]; omega), if_neg (by simp [h3]), if_neg (by rw [List.length_map]; omega)]
  generalize hds : ((l.map (·.w)).map fun x => rst (dC ws gap) gap w x) = ds at hspec
  have hdl : ds.length = l.length := by rw [← hds]; simp
  obtain ⟨hc, hw0⟩ := checkE_of h1
  obtain ⟨_, hl0⟩ := checkE_of h3
  have hg := (checkC_zero hc).2
  refine .env (by (try simp only [liE, letsOf, letU, snd, List.append_nil]); rfl) (.loop (fun n us _ => ∃ (p : Nat) (best : Int) (k : Nat), us = [.i p, .i best, .i k] ∧ n + k = l.length ∧ (k = 0 → p = 0 ∧ best = -1) ∧ (k ≠ 0 → 0 ≤ best ∧ nearGo 0 0 0 ds = nearGo k p best (ds.drop k))) l.length ⟨0, -1, 0, rfl, rfl, fun _ => ⟨rfl, rfl⟩, fun h => absurd rfl h⟩ ?_)
  rintro n _ m _ ⟨p, best, k, rfl, hn, hs0, hs⟩
  refine .chk (by ((try simp only [evE, liE, letsOf, letU, snd]); (try simp only [cmE])); omega) (.ite (fun h5 => ?_) (fun h5 => .ret rfl ?_)) <;> ((try simp only [evE, liE, letsOf, letU, snd] at h5); (try simp only [cmE] at h5))
  · have hk : k < l.length := by omega
    have hdk : ds[k]'(by omega) = rst (dC ws gap) gap w l[k].w := by
      simp only [← hds]
      simp
    have hs1 : nearGo 0 0 0 ds = if k = 0 ∨ rst (dC ws gap) gap w l[k].w < best then nearGo (k + 1) k (rst (dC ws gap) gap w l[k].w) (ds.drop (k + 1)) else nearGo (k + 1) p best (ds.drop (k + 1)) := by
      rw [← hdk]
      by_cases h0 : k = 0
      · subst h0
        have := nearGo_drop 0 0 0 ds (by omega)
        rw [if_pos (.inl rfl)] at this ⊢
        exact this
      · rw [← nearGo_drop k p best ds (by omega)]
        exact (hs h0).2
    have hpos : 0 ≤ rst (dC ws gap) gap w l[k].w := rst_pos hg.1 (fun x y => (distC_pos hc).1) _ _
    have ek := add_i64 k (by omega)
    refine .loadWD l k hk (fun g => hp2.1.mono g.R) (.env (by (try simp only [liE, letsOf, letU, snd, List.append_nil]); rfl) (.rest00 ⟨pw, cw, w⟩ l[k] pc cc ws gap hw (hl _ (List.getElem_mem hk)) (checkE_pair hc (hw0 _ (by simp)) (hl0 _ (List.mem_map.2 ⟨_, List.getElem_mem hk, rfl⟩))) rfl (fun g => ⟨hp1.mono g.R, (hp2.2 _ (List.getElem_mem hk)).mono g.R, hp3.mono g.R⟩) fun q cq q' c' m' hm' => ?_))
    refine .env (by (try simp only [liE, letsOf, letU, snd, List.append_nil]); rfl) (.ite (fun h6 => .again rfl ⟨n - 1, by omega, k, rst (dC ws gap) gap w l[k].w, k + 1, ?_, by omega, fun h => by omega, fun _ => ⟨hpos, ?_⟩⟩) (fun h6 => .again rfl ⟨n - 1, by omega, p, best, k + 1, ?_, by omega, fun h => by omega, fun _ => ?_⟩)) <;> ((try simp only [evE, liE, letsOf, letU, snd] at h6); (try simp only [cmE] at h6))
    · (simp only [evE, liE, letsOf, letU, snd, Sh.uss, Sh.us, atAddr, map_add0, List.append_nil]); rw [ek]
    · rw [hs1, if_pos]
      by_cases h0 : k = 0
      · exact .inl h0
      · have := (hs h0).1; exact .inr (by omega)
    · (simp only [evE, liE, letsOf, letU, snd, Sh.uss, Sh.us, atAddr, map_add0, List.append_nil]); rw [ek]
    · have h0 : k ≠ 0 := fun h => by have := (hs0 h).2; omega
      rw [if_neg (by omega)] at hs1
      exact ⟨(hs h0).1, hs1⟩
  · have h0 : k ≠ 0 := by omega
    have := (hs h0).2
    rw [List.drop_of_length_le (by omega)] at this
    rw [hspec, this]; rfl
set_option maxHeartbeats 400000 in
theorem c_refMatrix (ql : Option Addr) (cl : Nat) (l : List WD) (pc : Option Addr) (cc : Nat) (ws : List Int) (gap : Int) (hl : ∀ x ∈ l, Wok x.w) (hll : l.length < 2 ^ 62) :
    FnM Tryd.prog n_ref17_Matrix [slv ql l.length cl, costs pc ws.length cc gap] (fun R => WordsAt R ql l ∧ CostsAt R pc ws) fun v mq _ =>
      ∃ q cq, v = .tuple #[slv q (matE ws gap (l.map (·.w))).1.length cq, .int .i64 (matE ws gap (l.map (·.w))).2] ∧ Row mq 2 1 q cq (matE ws gap (l.map (·.w))).1.length ((matE ws gap (l.map (·.w))).1.map (.int .i64)) := by
  refine FnM.of S_ref17_Matrix mx [.p ql, .i l.length, .i cl, .p pc, .i ws.length, .i cc, .i gap] rfl rfl fun c hp => .alloc fun b0 => ?_
  obtain ⟨hp2, hp3⟩ := hp
  refine .callV (c_ref17Check pc cc ws gap none 0 [] (by simp) (by simp)) (fun g => ⟨hp3.mono g.R, fun i x hx => by simp at hx, by simp⟩) (.ite (fun h1 => .ret rfl ⟨none, 0, ?_⟩) (fun h1 => .chk (by ((try simp only [evE, liE, letsOf, letU, snd]); (try simp only [cmE])); omega) (.ite (fun h2 => .ret rfl ⟨none, 0, ?_⟩) (fun h2 => .callV (c_ref17Check pc cc ws gap ql cl l hl hll) (fun g => ⟨hp3.mono g.R, hp2.mono g.R⟩) (.ite (fun h3 => .ret rfl ⟨none, 0, ?_⟩) (fun h3 => ?_)))))) <;> ((try simp only [evE, liE, letsOf, letU, snd] at h1); (try simp only [cmE] at h1))
  · have : matE ws gap (l.map (·.w)) = ([], checkE ws gap []) := by unfold matE; exact if_pos h1
    rw [this]; exact ⟨rfl, Row.nil _ _ _⟩
  · ((try simp only [evE, liE, letsOf, letU, snd] at h2); (try simp only [cmE] at h2))
    have : matE ws gap (l.map (·.w)) = ([], 12) := by unfold matE; rw [if_neg (fun h : checkE ws gap [] ≠ 0 => h h1), if_pos (by rw [List.length_map]; omega)]
    rw [this]; exact ⟨rfl, Row.nil _ _ _⟩
  · ((try simp only [evE, liE, letsOf, letU, snd] at h2); (try simp only [cmE] at h2))
    ((try simp only [evE, liE, letsOf, letU, snd] at h3); (try simp only [cmE] at h3))
    have : matE ws gap (l.map (·.w)) = ([], checkE ws gap (l.map (·.w))) := by unfold matE; rw [if_neg (fun h : checkE ws gap [] ≠ 0 => h h1), if_neg (by rw [List.length_map]; omega), if_pos h3]
    rw [this]; exact ⟨rfl, Row.nil _ _ _⟩
  ((try simp only [evE, liE, letsOf, letU, snd] at h2); (try simp only [cmE] at h2))
  ((try simp only [evE, liE, letsOf, letU, snd] at h3); (try simp only [cmE] at h3))
  obtain ⟨hc, hl0⟩ := checkE_of h3
  have hg := (checkC_zero hc).2
  have hspec : matE ws gap (l.map (·.w)) = (mt l.length (fun r s => rst (dC ws gap) gap ((l.map (·.w)).getD r []) ((l.map (·.w)).getD s [])), 0) := by
    unfold matE
    rw [if_neg (fun h : checkE ws gap [] ≠ 0 => h h1), if_neg (by rw [List.length_map]; omega), if_neg (fun h => h h3), List.length_map]
    congr 1
    refine mt_congr fun r s _ _ => ?_
    unfold dm
    split
    · rename_i e; subst e
      exact (rst_self (d := dC ws gap) hg.1 (fun x y => (distC_pos hc).1) (fun x => dC_self x) _).symm
    · rcases Nat.lt_or_ge r s with h | h
      · rw [Nat.max_eq_right (by omega), Nat.min_eq_left (by omega)]; exact rst_comm (dC_comm ws gap) _ _
      · rw [Nat.max_eq_left (by omega), Nat.min_eq_right (by omega)]
  rw [hspec]
  generalize hf : (fun r s => rst (dC ws gap) gap ((l.map (·.w)).getD r []) ((l.map (·.w)).getD s [])) = f
  have hfv : ∀ (i j : Nat) (hi : i < l.length) (hj : j < l.length), rst (dC ws gap) gap l[i].w l[j].w = f i j := fun i j hi hj => by rw [← hf]; simp [hi, hj]
  have hN : l.length * l.length ≤ 64 * 64 := Nat.mul_le_mul (by omega) (by omega)
  have hlt : ∀ {i : Nat}, i < l.length → (i + 1) * l.length ≤ l.length * l.length := fun h => Nat.mul_le_mul_right _ h
  have hml := mt_len l.length f
  have htk : ∀ {t : Nat}, t ≤ l.length * l.length → ((mt l.length f).take t).length = t := fun h => by rw [List.length_take]; omega
  refine .env (by (try simp only [liE, letsOf, letU, snd, List.append_nil]); rfl) (.loop (fun n us m => ∃ (i : Nat) (q : Option Addr) (cq : Nat), us = [.p q, .i (i * l.length : Nat), .i (cq : Nat), .i i] ∧ n + i = l.length ∧ Row m 2 1 q cq (i * l.length) (((mt l.length f).take (i * l.length)).map (.int .i64))) l.length ⟨0, none, 0, by rw [Nat.zero_mul]; rfl, rfl, by simpa using Row.nil _ _ _⟩ ?_)
  rintro n _ m _ ⟨i, q, cq, rfl, hn, hrow⟩
  refine .chk (by ((try simp only [evE, liE, letsOf, letU, snd]); (try simp only [cmE])); omega) (.ite (fun h4 => ?_) (fun h4 => .ret ?_ ⟨q, cq, rfl, ?_⟩)) <;> ((try simp only [evE, liE, letsOf, letU, snd] at h4); (try simp only [cmE] at h4))
  · have hi : i < l.length := by omega
    have hil := hlt hi
    rw [Nat.add_mul, Nat.one_mul] at hil
    have ei := add_i64 i (by omega)
    refine .loop (fun n' us m => ∃ (j : Nat) (q : Option Addr) (cq : Nat), us = [.p q, .i (i * l.length + j : Nat), .i (cq : Nat), .i j] ∧ n' + j = l.length ∧ Row m 2 1 q cq (i * l.length + j) (((mt l.length f).take (i * l.length + j)).map (.int .i64))) l.length ⟨0, q, cq, by (simp only [evE, liE, letsOf, letU, snd, Sh.uss, Sh.us, atAddr, map_add0, List.append_nil]); rfl, rfl, hrow⟩ ?_
    clear hrow
    rintro n' _ m _ ⟨j, q, cq, rfl, hn', hrow⟩
    refine .env (by (try simp only [liE, letsOf, letU, snd, List.append_nil]); rfl) (.chk (by ((try simp only [evE, liE, letsOf, letU, snd]); (try simp only [cmE])); omega) (.ite (fun h5 => ?_) (fun h5 => .again rfl ⟨n - 1, by omega, i + 1, q, cq, ?_, by omega, ?_⟩))) <;> ((try simp only [evE, liE, letsOf, letU, snd] at h5); (try simp only [cmE] at h5))
    · have hj : j < l.length := by omega
      have ej := add_i64 j (by omega)
      refine .loadWD l i hi (fun g => hp2.1.mono g.R) (.env (by (try simp only [liE, letsOf, letU, snd, List.append_nil]); rfl) (.loadWD l j hj (fun g => hp2.1.mono g.R) (.env (by (try simp only [liE, letsOf, letU, snd, List.append_nil]); rfl) (.rest00 l[i] l[j] pc cc ws gap (hl _ (List.getElem_mem hi)) (hl _ (List.getElem_mem hj)) (checkE_pair hc (hl0 _ (List.mem_map.2 ⟨_, List.getElem_mem hi, rfl⟩)) (hl0 _ (List.mem_map.2 ⟨_, List.getElem_mem hj, rfl⟩))) rfl (fun g => ⟨(hp2.2 _ (List.getElem_mem hi)).mono g.R, (hp2.2 _ (List.getElem_mem hj)).mono g.R, hp3.mono g.R⟩) fun q1 cq1 q2 c2 m' hm' => ?_))))
      rw [hfv i j hi hj]
      refine .env (by (try simp only [liE, letsOf, letU, snd, List.append_nil]); rfl) (.alloc fun b1 => .append (q := q) (cap := cq) (n := i * l.length + j) (qx := some ⟨b1, 0, none⟩) (kx := 1) (capx := 1) (news := [.int .i64 (f i j)]) el23 (hrow.keep fun g _ hg => hm' g hg) (fun g => g.cells (j := 1) rfl rfl rfl) (by simp) (by simp [Value.oneCell']) (fun h => by cases h) (by simp [maxLen]; omega) (by omega) (fun q' cq' m2 hr' _ _ => .again rfl ⟨n' - 1, by omega, j + 1, q', cq', ?_, by omega, ?_⟩))
      · (simp only [evE, liE, letsOf, letU, snd, Sh.uss, Sh.us, atAddr, map_add0, List.append_nil]); rw [ej]; rfl
      · have e : (mt l.length f).take (i * l.length + (j + 1)) = (mt l.length f).take (i * l.length + j) ++ [f i j] := by
          rw [← Nat.add_assoc, List.take_add_one, mt_at f hi hj]; rfl
        rw [e, List.map_append]; exact hr'
    · (simp only [evE, liE, letsOf, letU, snd, Sh.uss, Sh.us, atAddr, map_add0, List.append_nil]); rw [ei, show i * l.length + j = (i + 1) * l.length by rw [Nat.add_mul, Nat.one_mul]; omega]
    · rw [show i * l.length + j = (i + 1) * l.length by rw [Nat.add_mul, Nat.one_mul]; omega] at hrow; exact hrow
  · show Value.tuple #[slv q (i * l.length) cq, .int .i64 0] = _
    rw [hml, show i = l.length by omega]
  · rw [show i = l.length by omega, List.take_of_length_le (by omega)] at hrow
    rw [hml]; exact hrow
end Go.Proofs.YtedfogpnmpmggaaDoor
