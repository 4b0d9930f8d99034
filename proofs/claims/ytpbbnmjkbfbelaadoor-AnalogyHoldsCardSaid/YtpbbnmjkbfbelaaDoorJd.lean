/- Chapter 30: the two kinds of changes. -/
import Derived.Test.YtpbbnmjkbfbelaaDoorJc
set_option linter.unusedSimpArgs false
set_option linter.unusedVariables false
namespace Go.Sy
open Go Go.RowKit
section
variable {P : Program} {c : Cx} {L : List Nat} {ρ : Env} {blks : List Blk} {m : Mem} {R : Value → HW → Prop} {Dn : Nat → List U → HW → Prop} {A : List (List U → HW → Prop)}
theorem DenM.loadS {i : Nat} {off : IT} {k : Tree} (xs : List Value) (j : Nat) (q : Option Addr) (kn cap : Nat) (ho : off.eval ρ = (j : Int)) (hx : xs[j]? = some (slv q kn cap)) (hw : Good c L m → Cells (vw c L ρ blks m) (ρ.ptr i) xs) (hk : DenM P R Dn k L (ρ ++ [.p q, .i kn, .i cap]) c m A) :
    DenM P R Dn (.load i off [.sl] blks k) L ρ c m A := by
  refine .loadC [.p q, .i kn, .i cap] (ρ.ptr i) xs j rfl ho rfl hw (List.getElem?_eq_some_iff.1 hx).1 (fun q' v hv => ?_) hk
  match q', hv with
  | 0, hv =>
    simp only [Sh.freshs, SV.dens] at hv
    rw [slv_fresh] at hv
    simp only [List.getElem?_cons_zero, Option.some.injEq] at hv
    rw [← hv]; exact hx
  | q' + 1, hv => simp [Sh.freshs, SV.dens] at hv
/-- A variable of the program's, of several cells. -/
theorem DenM.loadGl {t ty : TypeId} {d : TypeDesc} {b o : Nat} {shs : List Sh} {k : Tree} (us : List U) (vs : List Value) (hu : P.underlying t = some d) (hl : vs.length = sizeT P t) (ha : isAggT P t = true) (hc : Good c L m → ∀ (j : Nat) v, vs[j]? = some v → vw c L ρ blks m b (o + j) = some v) (hus : Sh.eats shs us = some []) (hv : ((Sh.agg shs).fresh ρ.length).1.den L (ρ ++ us) = .agg vs.toArray)
    (hk : DenM P R Dn k L (ρ ++ us) c m A) : DenM P R Dn (.extp ⟨.load t (.tmp 0), ty, [.cst (.pointer (some ⟨b, o, none⟩))]⟩ (.agg shs) blks k) L ρ c m A := .extp us (uOk_of (by simp only [Sh.eat]; exact hus)) (fun g w hw => by
  rw [hv]
  refine run_value ?_
  show (Instr.loadAt t (.pointer (some ⟨b, o, none⟩))).run P w = _
  simp only [Instr.loadAt, Instr.sureAddr, Sem.run_bind, Sem.run_pure, Result.andThen_ok]
  have := run_loadVar' (P := P) (t := t) (w := w) (b := b) (o := o) (vs := vs) hu hl (fun h => by rw [ha] at h; cases h) fun j v hj => vw_cell hw _ _ _ (hc g j v hj)
  rw [ha] at this
  simpa using this) hk
end
/-! What a change gives. -/
def applyE (x y c : List Snd) : Option (List Snd) := if x.length ≤ c.length ∧ c.drop (c.length - x.length) = x then some (c.take (c.length - x.length) ++ y) else none
def applyF (x y c : List Snd) : Option (List Snd) := if x.length ≤ c.length ∧ c.take x.length = x then some (y ++ c.drop x.length) else none
/-- How much two words have in common at the end. -/
def csl (a b : List Snd) : Nat := cpl a.reverse b.reverse
def solveW (a b c : List Snd) : Option (List Snd) := applyE (a.drop (cpl a b)) (b.drop (cpl a b)) c
def frontW (a b c : List Snd) : Option (List Snd) := applyF (a.take (a.length - csl a b)) (b.take (b.length - csl a b)) c
theorem csl_le (a b : List Snd) : csl a b ≤ a.length ∧ csl a b ≤ b.length := by
  have := cpl_le a.reverse b.reverse
  simpa [csl] using this
theorem csl_take {a b : List Snd} {i j : Nat} (ha : i < a.length) (hb : j < b.length) : csl (a.take (i + 1)) (b.take (j + 1)) = if a[i] = b[j] then 1 + csl (a.take i) (b.take j) else 0 := by
  unfold csl
  rw [List.take_succ_eq_append_getElem ha, List.take_succ_eq_append_getElem hb, List.reverse_append, List.reverse_append]
  rfl
theorem csl_zero {a b : List Snd} {i j : Nat} (h : i = 0 ∨ j = 0) : csl (a.take i) (b.take j) = 0 := by
  unfold csl
  rcases h with rfl | rfl
  · simp [cpl]
  · simp only [List.take_zero, List.reverse_nil]
    cases (a.take i).reverse <;> rfl
theorem applyE_rev (x y c : List Snd) : (applyE x.reverse y.reverse c.reverse).map List.reverse = applyF x y c := by
  unfold applyE applyF
  simp only [List.length_reverse]
  by_cases h : x.length ≤ c.length
  · have e : c.reverse.drop (c.length - x.length) = (c.take x.length).reverse := by rw [List.drop_reverse]; congr 1; rw [Nat.sub_sub_self h]
    have e2 : c.reverse.take (c.length - x.length) = (c.drop x.length).reverse := by rw [List.take_reverse]; congr 2; omega
    by_cases h2 : c.take x.length = x
    · rw [if_pos ⟨h, by rw [e, h2]⟩, if_pos ⟨h, h2⟩, Option.map_some, e2, List.reverse_append, List.reverse_reverse, List.reverse_reverse]
    · rw [if_neg (fun q => h2 (by have := q.2; rw [e] at this; simpa using congrArg List.reverse this)), if_neg (fun q => h2 q.2)]; rfl
  · rw [if_neg (fun q => h q.1), if_neg (fun q => h q.1)]; rfl
theorem solve_rev (a b c : List Snd) : (solveW a.reverse b.reverse c.reverse).map List.reverse = frontW a b c := by
  unfold solveW frontW
  have e : ∀ (l : List Snd) (n : Nat), l.reverse.drop n = (l.take (l.length - n)).reverse := fun l n => by rw [List.drop_reverse]
  rw [e, e, applyE_rev]
  rfl
/-- A word in memory of the call's own, or none. -/
structure RowW (m : Mem) (et : TypeId) (q : Option Addr) (cap : Nat) (w : List Snd) : Prop where
  row : w ≠ [] → Row m et 2 q cap w.length (wcells w)
  nil : q = none → cap = 0
  le : w.length ≤ cap
theorem RowW.of {m : Mem} {et : TypeId} {q : Option Addr} {cap : Nat} {w : List Snd} (h : Row m et 2 q cap w.length (wcells w)) : RowW m et q cap w := ⟨fun _ => h, row_cap0 h, h.cap_le⟩
theorem RowW.keep {m m' : Mem} {et : TypeId} {q : Option Addr} {cap : Nat} {w : List Snd} (h : RowW m et q cap w) (hk : ∀ b, m b ≠ none → m' b = m b) : RowW m' et q cap w := ⟨fun hw => (h.row hw).keep fun g _ hg => hk g hg, h.nil, h.le⟩
theorem RowW.joinL {m mq : Mem} {et : TypeId} {q : Option Addr} {cap : Nat} {w : List Snd} (h : RowW m et q cap w) : RowW (m.join mq) et q cap w := h.keep fun _ hb => Mem.join_old hb
theorem RowW.joinR {m mq : Mem} {et : TypeId} {q : Option Addr} {cap : Nat} {w : List Snd} (h : RowW mq et q cap w) (hf : ∀ b, mq b ≠ none → m b = none) : RowW (m.join mq) et q cap w := h.keep fun b hb => Mem.join_new (hf b hb)
theorem RowW.reads {m : Mem} {et : TypeId} {q : Option Addr} {cap : Nat} {w : List Snd} (h : RowW m et q cap w) {c : Cx} {L : List Nat} {ρ : Env} {blks : List Blk} (g : Good c L m) : WordAt (vw c L ρ blks m) q w := by
  by_cases hw : w = []
  · rw [hw]; exact fun i x hx => by simp [wcells] at hx
  · exact (h.row hw).reads g
theorem RowW.ok {m : Mem} {et : TypeId} {q : Option Addr} {cap : Nat} {w : List Snd} (h : RowW m et q cap w) : WD.ok ⟨q, cap, w⟩ := ⟨h.le, h.nil⟩
/-- A word that there may be, in memory. -/
def Opt (et : TypeId) (mq : Mem) (v : Value) (o : Option (List Snd)) : Prop := ∃ q cq, v = .tuple #[slv q (o.getD []).length cq, .bool o.isSome] ∧ RowW mq et q cq (o.getD [])
theorem Opt.none (et : TypeId) (mq : Mem) : Opt et mq (.tuple #[.slice .none 0 0, .bool false]) .none := ⟨.none, 0, rfl, .of (Row.nil _ _ _)⟩
/-- A word, whether there is one, an error. -/
def Res3 (et : TypeId) (mq : Mem) (v : Value) (r : List Snd × Bool × Int) : Prop := ∃ q cq, v = .tuple #[slv q r.1.length cq, .bool r.2.1, .int .i64 r.2.2] ∧ RowW mq et q cq r.1
/-- What a change gives, or why it gives nothing. -/
def oneW (a b c : List Snd) (o : Option (List Snd)) : List Snd × Bool × Int := if checkL [a, b, c] ≠ 0 then ([], false, checkL [a, b, c]) else if (o.getD []).length > 32 then ([], false, 11) else (o.getD [], o.isSome, 0)
theorem res3_fresh (ρ : Env) (L : List Nat) (q : Option Addr) (n cap : Nat) (x : Bool) (e : Int) : ((Sh.tup [.sl, .bool, .int .i64]).fresh ρ.length).1.den L (ρ ++ [.p q, .i n, .i cap, .b x, .i e]) = .tuple #[slv q n cap, .bool x, .int .i64 e] := by
  have e1 := sl_at ρ L q n cap [.b x, .i e]
  have e2 := getElem_env ρ [.p q, .i n, .i cap, .b x, .i e] 3
  have e3 := getElem_env ρ [.p q, .i n, .i cap, .b x, .i e] 4
  simp only [Sh.fresh, Sh.freshs, SV.den, SV.dens, BT.eval, IT.eval, Env.bool, Env.int] at e1 e2 e3 ⊢
  rw [e1, show ρ.length + 1 + 2 = ρ.length + 3 by omega, e2, show ρ.length + 3 + 1 = ρ.length + 4 by omega, e3]
  rfl
theorem two_fresh (ρ : Env) (L : List Nat) (q : Option Addr) (n cap : Nat) (q' : Option Addr) (n' cap' : Nat) : ((Sh.tup [.sl, .sl]).fresh ρ.length).1.den L (ρ ++ [.p q, .i n, .i cap, .p q', .i n', .i cap']) = .tuple #[slv q n cap, slv q' n' cap'] := by
  have e1 := sl_at ρ L q n cap [.p q', .i n', .i cap']
  have e2 := sl_at (ρ ++ [.p q, .i n, .i cap]) L q' n' cap' []
  rw [List.append_assoc] at e2
  simp only [List.cons_append, List.nil_append, List.length_append, List.length_cons, List.length_nil] at e2
  simp only [Sh.fresh, Sh.freshs, SV.den, SV.dens] at e1 e2 ⊢
  rw [e1, e2]
theorem opt_fresh (ρ : Env) (L : List Nat) (q : Option Addr) (n cap : Nat) (x : Bool) : ((Sh.tup [.sl, .bool]).fresh ρ.length).1.den L (ρ ++ [.p q, .i n, .i cap, .b x]) = .tuple #[slv q n cap, .bool x] := by
  have e1 := sl_at ρ L q n cap [.b x]
  have e2 := getElem_env ρ [.p q, .i n, .i cap, .b x] 3
  simp only [Sh.fresh, Sh.freshs, SV.den, SV.dens, BT.eval, Env.bool] at e1 e2 ⊢
  rw [e1, show ρ.length + 1 + 2 = ρ.length + 3 by omega, e2]
  rfl
end Go.Sy
namespace Go.Proofs.YtpbbnmjkbfbelaaDoor
open Go Go.Sy Go.RowKit
theorem c_grow (n : Nat) (hn : n < 2 ^ 40) : FnM Tryd.prog n_slices_Grow___api_Sound_api_Sound_ [slv none 0 0, .int .i64 n] (fun _ => True) fun v mq _ => ∃ q cq, v = slv q 0 cq ∧ Row mq 31 2 q cq 0 [] := by
  refine FnM.of S_slices_Grow___api_Sound_api_Sound_ mx [.p none, .i 0, .i 0, .i n] rfl rfl fun c _ => .join (fun us mm => us = [] ∧ mm = Mem.emp) (.no (by ((try simp only [evE, liE, letsOf, letU, snd]); (try simp only [cmE])); omega) (.again rfl ⟨rfl, rfl⟩)) ?_
  rintro _ _ _ ⟨rfl, rfl⟩
  have e0 : ar .sub .i64 (n : Int) (ar .sub .i64 0 0) = (n : Int) := by rw [show ar .sub .i64 0 0 = 0 from rfl, subI (by omega) (by omega)]; omega
  refine .env (by (try simp only [liE, letsOf, letU, snd, List.append_nil]); rfl) (.capS Tryd.underlying22 none 0 0 (.env (by (try simp only [liE, letsOf, letU, snd, List.append_nil]); rfl) (.chk rfl (.join (fun us mm => ∃ q cq, us = [.p q, .i 0, .i (cq : Nat)] ∧ Row mm 31 2 q cq 0 []) (.ite (fun h1 => ?_) (fun h1 => .again rfl ⟨none, 0, rfl, Row.nil _ _ _⟩)) ?_))))
  · replace h1 : cm .gtr (ar .sub .i64 (n : Int) (ar .sub .i64 0 0)) 0 = true := h1
    rw [e0] at h1
    simp only [cm, decide_eq_true_eq] at h1
    refine .capS Tryd.underlying22 none 0 0 (.env (by (try simp only [liE, letsOf, letU, snd, List.append_nil]); rfl) (.chk rfl (.growNil n el22 Tryd.underlying3 (by omega) (by simp [maxLen]; omega) (by omega) (fun g cap' m' hg hle hr _ => ?_) rfl (by show Value.int _ (ar .sub .i64 (n : Int) (ar .sub .i64 0 0)) = _; rw [e0]))))
    refine .env (by (try simp only [liE, letsOf, letU, snd, List.append_nil]); rfl) (.chk rfl (.chk (by ((try simp only [evE, liE, letsOf, letU, snd]); (try simp only [cmE])); simp) (.again rfl ⟨some ⟨g, 0, none⟩, cap', ?_, hr⟩)))
    (simp only [evE, liE, letsOf, letU, snd, Sh.uss, Sh.us, atAddr, map_add0, List.append_nil]); simp [addr_zero]
  · rintro _ m _ ⟨q, cq, rfl, hr⟩
    exact .env (by (try simp only [liE, letsOf, letU, snd, List.append_nil]); rfl) (.ret rfl ⟨q, cq, rfl, hr⟩)
def cat (l : List WD) : List Snd := l.flatMap (·.w)
theorem cat_snoc {l : List WD} {j : Nat} (hj : j < l.length) : cat (l.take (j + 1)) = cat (l.take j) ++ l[j].w := by
  unfold cat
  rw [List.take_succ_eq_append_getElem hj, List.flatMap_append]; simp
theorem cat_le {l : List WD} (j : Nat) : (cat (l.take j)).length ≤ (cat l).length := by
  conv => rhs; rw [← List.take_append_drop j l]
  unfold cat
  rw [List.flatMap_append, List.length_append]; omega
theorem c_concat (q : Option Addr) (cq : Nat) (l : List WD) (ho : ∀ x ∈ l, x.ok) (hl : l.length < 2 ^ 40) (hn : (cat l).length < 2 ^ 40) : FnM Tryd.prog n_slices_Concat___api_Sound_api_Sound_ [slv q l.length cq] (fun R => WordsAt R q l) fun v mq _ => ∃ q' cq', v = slv q' (cat l).length cq' ∧ Row mq 31 2 q' cq' (cat l).length (wcells (cat l)) := by
  refine FnM.of S_slices_Concat___api_Sound_api_Sound_ mx [.p q, .i l.length, .i cq] rfl rfl fun c hp => .chk (by ((try simp only [evE, liE, letsOf, letU, snd]); (try simp only [cmE])); omega) ?_
  refine .loop (fun n us mm => ∃ j : Nat, us = [.i ((cat (l.take j)).length : Nat), .i j] ∧ n + j = l.length ∧ mm = Mem.emp) l.length ⟨0, rfl, rfl, rfl⟩ ?_
  rintro n _ _ _ ⟨j, rfl, hn', rfl⟩
  refine .ite (fun h1 => ?_) (fun h1 => ?_) <;> ((try simp only [evE, liE, letsOf, letU, snd] at h1); (try simp only [cmE] at h1))
  · have hj : j < l.length := by omega
    have hc := cat_le (l := l) (j + 1)
    have hs := congrArg List.length (cat_snoc hj)
    rw [List.length_append] at hs
    have e1 : ar .add .i64 ((cat (l.take j)).length : Int) (l[j].w.length : Int) = ((cat (l.take (j + 1))).length : Nat) := by rw [addI (by omega) (by omega), hs]; omega
    refine .loadWD l j hj (fun g => hp.1.mono g.R) (.env (by (try simp only [liE, letsOf, letU, snd, List.append_nil]); rfl) (.chk (by ((try simp only [evE, liE, letsOf, letU, snd]); (try simp only [cmE])); omega) (.join (fun us mm => us = [] ∧ mm = Mem.emp) (.no ?_ (.again rfl ⟨rfl, rfl⟩)) ?_)))
    · show cm .lss (ar .add .i64 ((cat (l.take j)).length : Int) (l[j].w.length : Int)) 0 = false
      rw [e1]; simp only [cm, decide_eq_false_iff_not]; omega
    · rintro _ _ _ ⟨rfl, rfl⟩
      refine .env (by (try simp only [liE, letsOf, letU, snd, List.append_nil]); rfl) (.again rfl ⟨n - 1, by omega, j + 1, ?_, by omega, rfl⟩)
      (simp only [evE, liE, letsOf, letU, snd, Sh.uss, Sh.us, atAddr, map_add0, List.append_nil]); rw [add_i64 j (by omega), e1]
  · rw [List.take_of_length_le (by omega)]
    refine .env (by (try simp only [liE, letsOf, letU, snd, List.append_nil]); rfl) (.callM (c_grow (cat l).length hn) rfl rfl (fun _ => trivial) ?_)
    rintro v mq hf ⟨q1, c1, rfl, hr1⟩
    refine ⟨[.p q1, .i 0, .i c1], uOk_of rfl, (slv_fresh _ _ _ _ _).symm, ?_⟩
    replace hr1 := hr1.joinR (m := Mem.emp) fun b hb => (hf b hb).1
    refine .env (by (try simp only [liE, letsOf, letU, snd, List.append_nil]); rfl) (.chk (by ((try simp only [evE, liE, letsOf, letU, snd]); (try simp only [cmE])); omega) (.loop (fun n us mm => ∃ (j : Nat) (q1 : Option Addr) (c1 : Nat), us = [.p q1, .i ((cat (l.take j)).length : Nat), .i (c1 : Nat), .i j] ∧ n + j = l.length ∧ Row mm 31 2 q1 c1 (cat (l.take j)).length (wcells (cat (l.take j)))) l.length ⟨0, q1, c1, by (simp only [evE, liE, letsOf, letU, snd, Sh.uss, Sh.us, atAddr, map_add0, List.append_nil]); rfl, rfl, hr1⟩ ?_))
    clear hr1 hf
    rintro n _ m _ ⟨j, q1, c1, rfl, hn', hr1⟩
    refine .env (by (try simp only [liE, letsOf, letU, snd, List.append_nil]); rfl) (.ite (fun h1 => ?_) (fun h1 => .ret rfl ⟨q1, c1, ?_⟩)) <;> ((try simp only [evE, liE, letsOf, letU, snd] at h1); (try simp only [cmE] at h1))
    · have hj : j < l.length := by omega
      have hc := cat_le (l := l) (j + 1)
      have hs := congrArg List.length (cat_snoc hj)
      rw [List.length_append] at hs
      refine .loadWD l j hj (fun g => hp.1.mono g.R) (.env (by (try simp only [liE, letsOf, letU, snd, List.append_nil]); rfl) (.append (q := q1) (cap := c1) (n := (cat (l.take j)).length) (qx := l[j].p) (kx := l[j].w.length) (capx := l[j].cap) (news := wcells l[j].w) el22 hr1 (fun g => (hp.2 _ (List.getElem_mem hj)).mono g.R) (wcells_len _) (wcells_one _) (ho _ (List.getElem_mem hj)).nil (by simp [maxLen]; omega) (by omega) (fun q' cq' m' hr' _ _ => .again rfl ⟨n - 1, by omega, j + 1, q', cq', ?_, by omega, ?_⟩)))
      · (simp only [evE, liE, letsOf, letU, snd, Sh.uss, Sh.us, atAddr, map_add0, List.append_nil]); rw [add_i64 j (by omega), hs]
      · rw [cat_snoc hj, wcells_append, List.length_append]; exact hr'
    · rw [List.take_of_length_le (by omega)] at hr1 ⊢
      exact ⟨rfl, hr1⟩
theorem c_E1 (A B : WD) (oa : A.ok) (ob : B.ok) (la : A.w.length < 2 ^ 38) (lb : B.w.length < 2 ^ 38) : FnM Tryd.prog n_analogy_ending_1 [A.v, B.v] (fun R => WordAt R A.p A.w ∧ WordAt R B.p B.w) fun v _ _ => v = .tuple #[(A.from (cpl A.w B.w)).v, (B.from (cpl A.w B.w)).v] := by
  refine FnM.of S_analogy_ending_1 mx [.p A.p, .i A.w.length, .i A.cap, .p B.p, .i B.w.length, .i B.cap] rfl rfl fun c hp => .callM (c_common A.p B.p A.cap B.cap A.w B.w (by omega) (by omega)) rfl rfl (fun g => ⟨hp.1.mono g.R, hp.2.mono g.R⟩) ?_
  rintro v mq hf ⟨k, rfl⟩
  have hle := cpl_le A.w B.w
  have := oa.le; have := ob.le
  refine ⟨[.i (cpl A.w B.w : Nat), .i k], uOk_of rfl, rfl, .env (by (try simp only [liE, letsOf, letU, snd, List.append_nil]); rfl) (.chk (by ((try simp only [evE, liE, letsOf, letU, snd]); (try simp only [cmE])); omega) (.chk (by ((try simp only [evE, liE, letsOf, letU, snd]); (try simp only [cmE])); omega) (.ret ?_ rfl)))⟩
  simp only [SV.den, SV.dens]
  have e1 := den_from (L := []) (ρ := [.p A.p, .i A.w.length, .i A.cap, .p B.p, .i B.w.length, .i B.cap, .i (cpl A.w B.w : Nat), .i k]) (i := 0) (C := .var 2) (N := .var 6) (Ln := .var 1) (x := A) (n := cpl A.w B.w) rfl rfl rfl rfl
  have e2 := den_from (L := []) (ρ := [.p A.p, .i A.w.length, .i A.cap, .p B.p, .i B.w.length, .i B.cap, .i (cpl A.w B.w : Nat), .i k]) (i := 3) (C := .var 5) (N := .var 6) (Ln := .var 4) (x := B) (n := cpl A.w B.w) rfl rfl rfl rfl
  simp only [SV.den] at e1 e2
  rw [e1, e2]
end Go.Proofs.YtpbbnmjkbfbelaaDoor
