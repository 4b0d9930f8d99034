/- Chapter 19: what the outright laws take: spelt, costs, labels, finer. -/
import Derived.Test.YthabfpagilbplaaDoorBk
import Derived.Test.YthabfpagilbplaaDoorTcFiner
set_option linter.unusedSimpArgs false
set_option linter.unusedVariables false
/- Chapter 19: what the outright laws take: spelt, costs, labels, finer. -/
namespace Go.Sy
open Go Go.RowKit
theorem Good.mv {c : Cx} {L : List Nat} {ρ : Env} {blks : List Blk} {m : Mem} (g : Good c L m) : m.mv.le (vw c L ρ blks m) := by
  refine Mv.le.trans ⟨fun b o v hv => ?_, fun b es hv => ?_⟩ g.on
  · unfold Mem.mv at hv
    rw [Mv.on_c] at hv ⊢
    cases hb : m b with
    | none => rw [hb] at hv; cases hv
    | some x => rw [hb] at hv; cases x <;> exact hv
  · unfold Mem.mv at hv
    rw [Mv.on_m] at hv ⊢
    cases hb : m b with
    | none => rw [hb] at hv; cases hv
    | some x => rw [hb] at hv; cases x <;> exact hv
end Go.Sy
namespace Go.Proofs.YthabfpagilbplaaDoor
open Go Go.Sy Go.RowKit
def u8L (l : List Int) : List Value := l.map (Value.int .u8)
def Rows8At (R : Mv) (q : Option Addr) (rs : List IR) : Prop := Cells R q (rs.map IR.v) ∧ ∀ r ∈ rs, Cells R r.p (u8L r.l)
theorem Rows8At.mono {R S : Mv} {q : Option Addr} {rs : List IR} (h : Rows8At R q rs) (hle : R.le S) : Rows8At S q rs := ⟨h.1.mono hle, fun r hr => (h.2 r hr).mono hle⟩
structure Rok8 (r : IR) : Prop where
  cap : r.l.length ≤ r.cap
  len : r.l.length < 2 ^ 63
  el : ∀ x ∈ r.l, 0 ≤ x ∧ x < 256
def threeS (s : Snd) : Prop := s = (2, 5) ∨ s = (3, 4) ∨ s = (5, 2)
theorem three_ok {s : Snd} (h : threeS s) : Sok s ∧ valid s = true := by
  rcases h with rfl | rfl | rfl <;> exact ⟨⟨by decide, by decide⟩, by decide⟩
/-- What is known of a form that is spelt. -/
structure SpF (f : FD) : Prop where
  ok : Wok f.w.w
  check : checkW f.w.w = 0
  none : f.has = false → f.w.w = []
  len : f.w.w.length ≤ 10
  wok : f.w.ok
theorem SpF.blank {l : List FD} (h : ∀ f ∈ l, SpF f) : l.any blankF = false := List.any_eq_false.2 fun f hf => by
  unfold blankF
  cases e : f.has with
  | true => simp
  | false => rw [(h f hf).none e]; simp
theorem SpF.words {l : List FD} (h : ∀ f ∈ l, SpF f) : checkL (l.map (·.w.w)) = 0 := checkL_none fun i hi => (h _ (List.getElem_mem hi)).check
theorem SpF.chk {l : List FD} (h : ∀ f ∈ l, SpF f) (hl : l.length ≤ 16) {ws : List Int} {gap N D : Int} (hc : checkC ws gap = 0) (hd : limB N D = true) : check19 ws gap l N D = 0 := by
  unfold check19
  rw [if_neg (by simp [hc]), if_neg (by omega), if_neg (by rw [SpF.blank h]; simp), if_neg (by simp [SpF.words h]), if_pos hd]
theorem elF : El Tryd.prog 22 50 2 32 := El.of (by kernel_rfl)
theorem elS : El Tryd.prog 48 56 2 8 := El.of (by kernel_rfl)
theorem fcells_snoc (l : List FD) (f : FD) : fcells (l ++ [f]) = fcells l ++ [.bool f.has, f.w.v] := by simp [fcells]
theorem three_new {w : List Snd} (hw : ∀ s ∈ w, threeS s) (hl : w.length ≤ 10) : Wok w ∧ checkW w = 0 := ⟨fun s hs => (three_ok (hw s hs)).1, by
  unfold checkW
  rw [if_neg (by omega), if_pos (List.all_eq_true.2 fun s hs => (three_ok (hw s hs)).2)]⟩
structure SpM (m : Mem) (q : Option Addr) (cq : Nat) (fs : List FD) : Prop where
  out : Row m 50 2 q cq fs.length (fcells fs)
  inn : ∀ f ∈ fs, Row m 56 2 f.w.p f.w.cap f.w.w.length (wcells f.w.w)
theorem SpM.mv {m : Mem} {q : Option Addr} {cq : Nat} {fs : List FD} (h : SpM m q cq fs) : FormsAt m.mv q fs := ⟨Mem.mv_row h.out, fun f hf => Mem.mv_row (h.inn f hf)⟩
theorem row_in {m : Mem} {e : TypeId} {size : Nat} {q : Option Addr} {cap n : Nat} {xs : List Value} (h : Row m e size q cap n xs) {b : Nat} (hb : q = some ⟨b, 0, none⟩) : m b ≠ none := by
  rcases h.2 with ⟨h1, _⟩ | ⟨g, cur, h1, h2, _⟩
  · rw [h1] at hb; cases hb
  · rw [h1] at hb; cases hb; rw [h2]; simp
theorem row_at0 {m : Mem} {e : TypeId} {size : Nat} {q : Option Addr} {cap n : Nat} {xs : List Value} (h : Row m e size q cap n xs) {b o : Nat} (hb : q = some ⟨b, o, none⟩) : o = 0 := by
  rcases h.2 with ⟨h1, _⟩ | ⟨g, cur, h1, h2, _⟩
  · rw [h1] at hb; cases hb
  · rw [h1] at hb; cases hb; rfl
theorem c_spelt' (p : Option Addr) (cp : Nat) (rs : List IR) (hcp : rs.length ≤ cp) (hr : ∀ r ∈ rs, Rok8 r) : FnM Tryd.prog n_law19_spelt [slv p rs.length cp] (fun R => Rows8At R p rs) fun v mq _ => ∃ q cq l, v = slv q l.length cq ∧ l.length = min rs.length 16 ∧ SpM mq q cq l ∧ ∀ f ∈ l, SpF f := by
  have eN : (if (16 : Int) < (rs.length : Int) then (16 : Int) else (rs.length : Int)) = ((min rs.length 16 : Nat) : Int) := mn_nat rs.length 16
  refine FnM.of S_law19_spelt mx [.p p, .i rs.length, .i cp] rfl rfl fun c hp => .alloc fun b0 => .chk (by ((try simp only [evE, liE, letsOf, letU, snd]); (try simp only [cmE])); omega) (.chk (by ((try simp only [evE, liE, letsOf, letU, snd]); (try simp only [cmE])); rw [eN]; simp; omega) (.chk (by ((try simp only [evE, liE, letsOf, letU, snd]); (try simp only [cmE])); rw [eN]; omega) ?_))
  generalize hNN : min rs.length 16 = N at eN ⊢
  have hNl : N ≤ rs.length := by omega
  have hN16 : N ≤ 16 := by omega
  refine .loop (fun n us m => ∃ (q : Option Addr) (cq : Nat) (fs : List FD), fs.length ≤ N ∧ us = [.p q, .i fs.length, .i cq, .i fs.length] ∧ n = N - fs.length ∧ SpM m q cq fs ∧ ∀ f ∈ fs, SpF f) N ⟨none, 0, [], Nat.zero_le _, rfl, rfl, ⟨.nil _ _ _, (by intro f hf; cases hf)⟩, (by intro f hf; cases hf)⟩ ?_
  rintro n us m _ ⟨q, cq, fs, hfl, rfl, rfl, hM, hF⟩
  refine .env (by (try simp only [liE, letsOf, letU, snd, List.append_nil]); rfl) (.ite (fun h1 => ?_) (fun h1 => .ret rfl ?_)) <;> ((try simp only [evE, liE, letsOf, letU, snd] at h1 ); (try simp only [cmE] at h1 ))<;> rw [eN] at h1
  · have hj : fs.length < rs.length := by omega
    have hrj := hr _ (List.getElem_mem hj)
    have hcj := fun {R : Mv} (hR : c.R.le R) => (hp.2 _ (List.getElem_mem hj)).mono hR
    generalize hrr : rs[fs.length] = r at hrj hcj
    refine .join (fun us m => ∃ (q : Option Addr) (cq : Nat) (f : FD), us = [.p q, .i (fs.length + 1 : Nat), .i cq] ∧ SpM m q cq (fs ++ [f]) ∧ SpF f) (.loadSlM (rs.map IR.v) fs.length N r.p r.l.length r.cap rfl eN (by omega) (by rw [row_at rs _ hj, hrr]) (fun g => hp.1.mono g.R) (.env (by (try simp only [liE, letsOf, letU, snd, List.append_nil]); rfl) (.join (fun us m' => m' = m ∧ ∃ b : Bool, us = [.b b]) (.chk (by ((try simp only [evE, liE, letsOf, letU, snd]); (try simp only [cmE])); omega) (.ite (fun h2 => ?_) (fun h2 => .again rfl ⟨rfl, false, rfl⟩))) ?_))) ?_
    · ((try simp only [evE, liE, letsOf, letU, snd] at h2); (try simp only [cmE] at h2))
      have hr0 : 0 < r.l.length := by omega
      refine .chk0 hr0 (fun g => hcj g.R) rfl (by simp [u8L]) (.load1 (.int .u8 r.l[0]) r.p (u8L r.l) 0 rfl rfl (fun g => hcj g.R) (by unfold u8L; rw [List.getElem?_map, List.getElem?_eq_getElem hr0]; rfl) (.env (by (try simp only [liE, letsOf, letU, snd, List.append_nil]); rfl) (.again rfl ⟨rfl, _, rfl⟩)))
    · rintro us m' _ ⟨rfl, b, rfl⟩
      refine .env (by (try simp only [liE, letsOf, letU, snd, List.append_nil]); rfl) (.ite (fun h2 => ?_) (fun h2 => ?_))
      · refine .alloc fun b1 => .env (by (try simp only [liE, letsOf, letU, snd, List.append_nil]); rfl) (.append (q := q) (cap := cq) (n := fs.length) (qx := some ⟨b1, 0, none⟩) (kx := 1) (capx := 1) (news := [.bool false, slv none 0 0]) elF hM.out (fun g => g.cells (j := 1) rfl rfl rfl) rfl (by simp [slv, Value.oneCell']) (fun h => by cases h) (by simp [maxLen]; omega) (by omega) (fun q' cq' m6 hr6 hk6 hq6 => .again rfl ⟨q', cq', ⟨false, ⟨none, 0, []⟩⟩, (by (simp only [evE, liE, letsOf, letU, snd, Sh.uss, Sh.us, atAddr, map_add0, List.append_nil]) <;> rfl), ⟨?_, fun f hf => ?_⟩, ⟨(by intro s hs; cases hs), by decide, fun _ => rfl, Nat.zero_le _, ⟨Nat.le_refl _, fun _ => rfl⟩⟩⟩))
        · rw [List.length_append, fcells_snoc]; exact hr6
        · rcases List.mem_append.1 hf with hf | hf
          · exact (hM.inn f hf).keepA hM.out (by decide) hk6
          · simp at hf; subst hf; exact .nil _ _ _
      · have eM : (if (10 : Int) < (r.l.length : Int) then (10 : Int) else (r.l.length : Int)) = ((min r.l.length 10 : Nat) : Int) := mn_nat r.l.length 10
        have hcap := hrj.cap
        refine .alloc fun b1 => .chk (by ((try simp only [evE, liE, letsOf, letU, snd]); (try simp only [cmE])); omega) (.chk (by ((try simp only [evE, liE, letsOf, letU, snd]); (try simp only [cmE])); rw [eM]; simp; omega) (.chk (by ((try simp only [evE, liE, letsOf, letU, snd]); (try simp only [cmE])); rw [eM]; omega) ?_))
        generalize hMM : min r.l.length 10 = M at eM
        have hMl : M ≤ r.l.length := by omega
        have hM10 : M ≤ 10 := by omega
        refine .loop (fun n us m => ∃ (q2 : Option Addr) (c2 : Nat) (w : List Snd), w.length ≤ M ∧ us = [.i w.length, .b true, .p q2, .i w.length, .i c2] ∧ n = M - w.length ∧ SpM m q cq fs ∧ Row m 56 2 q2 c2 w.length (wcells w) ∧ (∀ f ∈ fs, ∀ b, f.w.p = some ⟨b, 0, none⟩ → q2 ≠ some ⟨b, 0, none⟩) ∧ ∀ s ∈ w, threeS s) M ⟨none, 0, [], Nat.zero_le _, rfl, rfl, hM, .nil _ _ _, fun f _ b _ h => (by cases h), (by intro s hs; cases hs)⟩ ?_
        rintro n us m5 _ ⟨q2, c2, w, hwl, rfl, rfl, hM5, hW5, hsep, hth⟩
        refine .env (by (try simp only [liE, letsOf, letU, snd, List.append_nil]); rfl) (.ite (fun h3 => ?_) (fun h3 => ?_)) <;> ((try simp only [evE, liE, letsOf, letU, snd] at h3 ); (try simp only [cmE] at h3 ))<;> rw [eM] at h3
        · have hk : w.length < r.l.length := by omega
          have hbk := hrj.el _ (List.getElem_mem hk)
          obtain ⟨z, hz, hz3⟩ : ∃ z : Nat, ar .rem .u8 r.l[w.length] 3 = (z : Int) ∧ z < 3 := by
            obtain ⟨v, hv⟩ := Int.eq_ofNat_of_zero_le hbk.1
            rw [hv]
            exact ⟨v % 3, rfl, Nat.mod_lt _ (by decide)⟩
          have nxt : ∀ {s : Snd} {q' : Option Addr} {cq' : Nat} {m6 : Mem} {us : List U}, threeS s → Row m6 56 2 q' cq' (w.length + 1) (wcells w ++ scell s) → (∀ b, ((∃ o, q2 = some ⟨b, o, none⟩) → c2 < w.length + 1) → m5 b ≠ none → m6 b = m5 b) → (q' = q2 ∨ ∃ g, q' = some ⟨g, 0, none⟩ ∧ m5 g = none) → us = [.i ((w.length + 1 : Nat) : Int), .b true, .p q', .i ((w.length + 1 : Nat) : Int), .i cq'] →
              ∃ n', n' < M - w.length ∧ ∃ (q2 : Option Addr) (c2 : Nat) (w : List Snd), w.length ≤ M ∧ us = [.i w.length, .b true, .p q2, .i w.length, .i c2] ∧ n' = M - w.length ∧ SpM m6 q cq fs ∧ Row m6 56 2 q2 c2 w.length (wcells w) ∧ (∀ f ∈ fs, ∀ b, f.w.p = some ⟨b, 0, none⟩ → q2 ≠ some ⟨b, 0, none⟩) ∧ ∀ s ∈ w, threeS s := fun {s q' cq' m6 us} hs hr6 hk6 hq6 hu => by
            refine ⟨M - (w.length + 1), by omega, q', cq', w ++ [s], by simp; omega, by rw [hu]; simp, by simp, ⟨hM5.out.keepA hW5 (by decide) hk6, fun f hf => (hM5.inn f hf).keep fun b hb hb' => hk6 b (fun ⟨o, ho⟩ => ?_) hb'⟩, ?_, fun f hf b hb h => ?_, fun x hx => ?_⟩
            · have := row_at0 hW5 ho
              subst this
              exact absurd ho (hsep f hf b hb)
            · rw [List.length_append, wcells_append]
              have : wcells [s] = scell s := by simp [wcells]
              rw [this]; exact hr6
            · rcases hq6 with h2 | ⟨g2, h2, h3⟩
              · exact hsep f hf b hb (h2 ▸ h)
              · rw [h2] at h; cases h
                exact row_in (hM5.inn f hf) hb h3
            · rcases List.mem_append.1 hx with hx | hx
              · exact hth x hx
              · simp at hx; subst hx; exact hs
          refine .elemM (.int .u8 r.l[w.length]) (u8L r.l) w.length M rfl eM (by omega) (fun g => hcj g.R) (by unfold u8L; rw [List.getElem?_map, List.getElem?_eq_getElem hk]; rfl) (.env (by (try simp only [liE, letsOf, letU, snd, List.append_nil]); rfl) (.chk ?_ (.chk ?_ (.ite (fun h4 => ?_) (fun h4 => .ite (fun h5 => ?_) (fun h5 => .yes ?_ ?_))))))
          · show decide ((0 : Int) ≤ ar .rem .u8 r.l[w.length] 3) = true
            rw [hz]; exact decide_eq_true (by omega)
          · show decide (ar .rem .u8 r.l[w.length] 3 < 3) = true
            rw [hz]; exact decide_eq_true (by omega)
          · exact (.alloc fun b2 => .env (by (try simp only [liE, letsOf, letU, snd, List.append_nil]); rfl) (.append (q := q2) (cap := c2) (n := w.length) (qx := some ⟨b2, 0, none⟩) (kx := 1) (capx := 1) (news := scell (2, 5)) elS hW5 (fun g => g.cells (j := 2) rfl rfl rfl) rfl (by simp [scell, Value.oneCell']) (fun h => by cases h) (by simp [maxLen]; omega) (by omega) (fun q' cq' m6 hr6 hk6 hq6 => .again rfl (nxt (s := (2, 5)) (.inl rfl) hr6 hk6 hq6 (by (simp only [evE, liE, letsOf, letU, snd, Sh.uss, Sh.us, atAddr, map_add0, List.append_nil]); rw [add_i64 w.length (by omega)])))))
          · exact (.alloc fun b2 => .env (by (try simp only [liE, letsOf, letU, snd, List.append_nil]); rfl) (.append (q := q2) (cap := c2) (n := w.length) (qx := some ⟨b2, 0, none⟩) (kx := 1) (capx := 1) (news := scell (3, 4)) elS hW5 (fun g => g.cells (j := 2) rfl rfl rfl) rfl (by simp [scell, Value.oneCell']) (fun h => by cases h) (by simp [maxLen]; omega) (by omega) (fun q' cq' m6 hr6 hk6 hq6 => .again rfl (nxt (s := (3, 4)) (.inr (.inl rfl)) hr6 hk6 hq6 (by (simp only [evE, liE, letsOf, letU, snd, Sh.uss, Sh.us, atAddr, map_add0, List.append_nil]); rw [add_i64 w.length (by omega)])))))
          · replace h4 : (ar .rem .u8 r.l[w.length] 3 == 0) = false := h4
            replace h5 : (ar .rem .u8 r.l[w.length] 3 == 1) = false := h5
            show (ar .rem .u8 r.l[w.length] 3 == 2) = true
            rw [hz] at h4 h5 ⊢
            simp at h4 h5 ⊢
            omega
          · exact (.alloc fun b2 => .env (by (try simp only [liE, letsOf, letU, snd, List.append_nil]); rfl) (.append (q := q2) (cap := c2) (n := w.length) (qx := some ⟨b2, 0, none⟩) (kx := 1) (capx := 1) (news := scell (5, 2)) elS hW5 (fun g => g.cells (j := 2) rfl rfl rfl) rfl (by simp [scell, Value.oneCell']) (fun h => by cases h) (by simp [maxLen]; omega) (by omega) (fun q' cq' m6 hr6 hk6 hq6 => .again rfl (nxt (s := (5, 2)) (.inr (.inr rfl)) hr6 hk6 hq6 (by (simp only [evE, liE, letsOf, letU, snd, Sh.uss, Sh.us, atAddr, map_add0, List.append_nil]); rw [add_i64 w.length (by omega)])))))
        · have hwM : w.length = M := by omega
          refine .alloc fun b2 => .env (by (try simp only [liE, letsOf, letU, snd, List.append_nil]); rfl) (.append (q := q) (cap := cq) (n := fs.length) (qx := some ⟨b2, 0, none⟩) (kx := 1) (capx := 1) (news := [.bool true, slv q2 w.length c2]) elF hM5.out (fun g => g.cells (j := 2) rfl rfl (by (simp only [evE, liE, letsOf, letU, snd, Sh.uss, Sh.us, atAddr, map_add0, List.append_nil]); simp [slv_eq])) rfl (by simp [slv_eq, Value.oneCell']) (fun h => by cases h) (by simp [maxLen]; omega) (by omega) (fun q' cq' m6 hr6 hk6 hq6 => .again rfl ⟨q', cq', ⟨true, ⟨q2, c2, w⟩⟩, (by (simp only [evE, liE, letsOf, letU, snd, Sh.uss, Sh.us, atAddr, map_add0, List.append_nil]) <;> rfl), ⟨?_, fun f hf => ?_⟩, ⟨(three_new hth (by omega)).1, (three_new hth (by omega)).2, fun h => (by cases h), by show w.length ≤ 10; omega, ⟨hW5.cap_le, cap0_of hW5⟩⟩⟩))
          · rw [List.length_append, fcells_snoc]; exact hr6
          · rcases List.mem_append.1 hf with hf | hf
            · exact (hM5.inn f hf).keepA hM5.out (by decide) hk6
            · simp at hf; subst hf; exact hW5.keepA hM5.out (by decide) hk6
    · rintro us m' _ ⟨q', cq', f, rfl, hM', hF'⟩
      refine .env (by (try simp only [liE, letsOf, letU, snd, List.append_nil]); rfl) (.again rfl ⟨N - (fs.length + 1), by omega, q', cq', fs ++ [f], by simp; omega, ?_, by simp, hM', fun x hx => ?_⟩)
      · (simp only [evE, liE, letsOf, letU, snd, Sh.uss, Sh.us, atAddr, map_add0, List.append_nil]); rw [add_i64 fs.length (by omega), List.length_append]; rfl
      · rcases List.mem_append.1 hx with hx | hx
        · exact hF x hx
        · simp at hx; subst hx; exact hF'
  · exact ⟨q, cq, fs, rfl, by omega, hM, hF⟩
theorem c_costs19' (a b c d : Int) (ha : 0 ≤ a ∧ a < 256) (hb : 0 ≤ b ∧ b < 256) (hc : 0 ≤ c ∧ c < 256) (hd : 0 ≤ d ∧ d < 256) : FnM Tryd.prog n_law19_costs [.agg #[.int .u8 a, .int .u8 b, .int .u8 c, .int .u8 d]] (fun _ => True) fun v mq _ => ∃ q cq ws gap, v = costs q ws.length cq gap ∧ ws.length = 3 ∧ Row mq 2 1 q cq ws.length (ws.map (Value.int .i64)) ∧ checkC ws gap = 0 := by
  have key : ∀ x : Int, 0 ≤ x ∧ x < 256 → ∃ y : Nat, IntKind.i64.wrap (ar .rem .u8 x 8) = (y : Int) ∧ y < 8 := fun x hx => by
    obtain ⟨v, rfl⟩ := Int.eq_ofNat_of_zero_le hx.1
    have hm : v % 8 < 8 := Nat.mod_lt _ (by decide)
    refine ⟨v % 8, ?_, hm⟩
    show IntKind.i64.wrap ((v % 8 : Nat) : Int) = _
    exact wrap_i64 (by omega) (by omega)
  obtain ⟨a', ea, ha'⟩ := key a ha
  obtain ⟨b', eb, hb'⟩ := key b hb
  obtain ⟨c', ec, hc'⟩ := key c hc
  obtain ⟨d', ed, hd'⟩ := key d hd
  refine FnM.of S_law19_costs mx [.i a, .i b, .i c, .i d] rfl rfl fun cx hp => .alloc fun b0 => .alloc fun b1 => .alloc fun b2 => .retL (v := costs (some ⟨b2, 0, none⟩) 3 3 (IntKind.i64.wrap (ar .rem .u8 d 8))) rfl fun g => ⟨some ⟨b2, 0, none⟩, 3, [IntKind.i64.wrap (ar .rem .u8 a 8), IntKind.i64.wrap (ar .rem .u8 b 8), IntKind.i64.wrap (ar .rem .u8 c 8)], IntKind.i64.wrap (ar .rem .u8 d 8), rfl, rfl, ?_, ?_⟩
  · refine ⟨rfl, .inr ⟨b2, #[.int .i64 (IntKind.i64.wrap (ar .rem .u8 a 8)), .int .i64 (IntKind.i64.wrap (ar .rem .u8 b 8)), .int .i64 (IntKind.i64.wrap (ar .rem .u8 c 8))], rfl, (blkMem_at (j := 2) (b := b2) g.nd rfl rfl).trans rfl, Nat.le_refl _, by decide, rfl, rfl⟩⟩
  · rw [ea, eb, ec, ed]
    unfold checkC
    rw [if_neg]
    simp [badW]
    omega
end Go.Proofs.YthabfpagilbplaaDoor
/- Chapter 19: the laws' labels and finer; single linkage is coarser, plainly. -/
namespace Go.Sy
open Go Go.RowKit
theorem sm_lin (n : Nat) (g h : Nat → Int) (c d : Int) : sm n (fun i => g i * c + h i * d) = sm n g * c + sm n h * d := by
  induction n with
  | zero => simp [sm]
  | succ n ih => simp only [sm, ih, Int.add_mul]; omega
theorem sm_pos {n : Nat} {g : Nat → Int} (h : ∀ i, i < n → 0 ≤ g i) (a : Nat) (ha : a < n) (hp : 0 < g a) : 0 < sm n g := by
  have := sm_lt (n := n) (g := fun _ => 0) (h := g) h a ha hp
  rwa [sm_zero (fun _ _ => rfl)] at this
theorem sm_nn {n : Nat} {g : Nat → Int} (h : ∀ i, i < n → 0 ≤ g i) : 0 ≤ sm n g := by
  induction n with
  | zero => exact Int.le_refl _
  | succ n ih => simp only [sm]; have := ih fun i hi => h i (by omega); have := h n (by omega); omega
theorem s1_lin (lab : List Int) (X Y : Nat → Nat → Int) (c d x y : Int) : s1 lab (fun i k => X i k * c + Y i k * d) x y = s1 lab X x y * c + s1 lab Y x y * d := by
  unfold s1
  rw [← sm_lin]
  refine sm_congr fun i _ => ?_
  by_cases h : labAt lab i = x
  · simp only [if_pos h]
    rw [← sm_lin]
    refine sm_congr fun k _ => ?_
    by_cases h2 : labAt lab k = y
    · simp only [if_pos h2]
    · simp only [if_neg h2]; omega
  · simp only [if_neg h]; omega
theorem s1_pos (lab : List Int) (X : Nat → Nat → Int) (x y : Int) (h : ∀ i k, i < lab.length → k < lab.length → labAt lab i = x → labAt lab k = y → 0 < X i k) {a b : Nat} (ha : a < lab.length) (hb : b < lab.length) (la : labAt lab a = x) (lb : labAt lab b = y) : 0 < s1 lab X x y := by
  unfold s1
  refine sm_pos (fun i hi => ?_) a ha ?_
  · split
    · rename_i hx
      refine sm_nn fun k hk => ?_
      split
      · rename_i hy; have := h i k hi hk hx hy; omega
      · omega
    · omega
  · rw [if_pos la]
    refine sm_pos (fun k hk => ?_) b hb ?_
    · split
      · rename_i hy; have := h a k ha hk la hy; omega
      · omega
    · rw [if_pos lb]; exact h a b ha hb la lb
end Go.Sy
namespace Go.Proofs.YthabfpagilbplaaDoor
open Go Go.Sy Go.RowKit
/-- Two words that are near. -/
def nearE (ws : List Int) (gap : Int) (l : List FD) (N D : Int) (i j : Nat) : Prop := i < j ∧ j < l.length ∧ (l.map (·.has))[i]? = some true ∧ (l.map (·.has))[j]? = some true ∧ nearB ws gap l N D i j = true
theorem pairs_mem (l : List FD) (a b : Nat) : (a, b) ∈ (pairsN (aloneL (l.map (·.has)))).map (pairN l.length) ↔ a < b ∧ b < l.length ∧ (l.map (·.has))[a]? = some true ∧ (l.map (·.has))[b]? = some true := by
  have hal : (aloneL (l.map (·.has))).length = l.length := by rw [aloneL_len, List.length_map]
  have hml : (l.map (·.has)).length = l.length := List.length_map _
  constructor
  · intro hm
    obtain ⟨t, ht, he⟩ := List.mem_map.1 hm
    obtain ⟨k, hk⟩ := List.mem_iff_getElem?.1 ht
    have := pairsN_mem hk
    rw [hal] at this
    simp only [pairN, Prod.mk.injEq] at he
    rw [he.1, he.2] at this
    exact ⟨this.2.2.1, this.2.1, (alone_self _ a (by omega)).1 this.2.2.2.1, (alone_self _ b (by omega)).1 this.2.2.2.2⟩
  · rintro ⟨h1, h2, h3, h4⟩
    refine List.mem_map.2 ⟨a * l.length + b, ?_, ?_⟩
    · unfold pairsN
      rw [List.mem_filter, List.mem_range, hal]
      refine ⟨pair_lt (by omega) h2, ?_⟩
      have := okP_at (aloneL (l.map (·.has))) a b (by omega)
      rw [hal] at this
      rw [this, (alone_self _ a (by omega)).2 h3, (alone_self _ b (by omega)).2 h4]; simp [h1]
    · unfold pairN
      rw [Nat.mul_comm, Nat.mul_add_div (by omega), Nat.div_eq_of_lt h2, Nat.mul_add_mod, Nat.mod_eq_of_lt h2, Nat.add_zero]
def labelsF (ws : List Int) (gap : Int) (l : List FD) (N D : Int) : List Int := labels0 ws gap l N D (pairsN (aloneL (l.map (·.has)))).length
theorem labels_near (ws : List Int) (gap : Int) (l : List FD) (N D : Int) : Canon (l.map (·.has)) (nearE ws gap l N D) (labelsF ws gap l N D) := by
  have hc := Canon.fold (has := l.map (·.has)) (nearB ws gap l N D) ((pairsN (aloneL (l.map (·.has)))).map (pairN l.length)) (Canon.alone _) (fun e he => by
    have := (pairs_mem l e.1 e.2).1 he
    exact this.2.2)
  unfold labelsF labels0
  rw [List.take_length]
  refine canon_congr hc fun i j => ?_
  rw [pairs_mem]
  unfold nearE
  constructor
  · rintro (h | ⟨⟨h1, h2, h3, h4⟩, h5⟩)
    · exact h.elim
    · exact ⟨h1, h2, h3, h4, h5⟩
  · rintro ⟨h1, h2, h3, h4, h5⟩
    exact .inr ⟨⟨h1, h2, h3, h4⟩, h5⟩
theorem exists_near {ws : List Int} {gap : Int} {l : List FD} {N D : Int} (hc : checkC ws gap = 0) (hw : ∀ f ∈ l, checkW f.w.w = 0) (hN : 0 ≤ N) {lab : List Int} {a b : Nat} (ha : a < lab.length) (hb : b < lab.length) (la : labAt lab a = (a : Int)) (lb : labAt lab b = (b : Int))
    (h : leF (ratS ws gap l lab a b) (N, D) = true) : ∃ i k : Nat, i < lab.length ∧ k < lab.length ∧ labAt lab i = (a : Int) ∧ labAt lab k = (b : Int) ∧ nearB ws gap l N D i k = true := by
  refine Classical.byContradiction fun hno => ?_
  have hg := (checkC_zero hc).2.1
  have hall : ∀ i k : Nat, i < lab.length → k < lab.length → labAt lab i = (a : Int) → labAt lab k = (b : Int) → 0 < gap * (tabX ws gap l i k).2 ∧ N * (gap * (tabX ws gap l i k).2) < (tabX ws gap l i k).1 * D := fun i k hi hk h1 h2 => by
    have hn : nearB ws gap l N D i k = false := by
      cases e : nearB ws gap l N D i k with
      | false => rfl
      | true => exact absurd ⟨i, k, hi, hk, h1, h2, e⟩ hno
    have ht := tabX_small hc hw i k
    unfold nearB leF ratC at hn
    have hnn : 0 ≤ gap * (tabX ws gap l i k).2 := Int.mul_nonneg hg ht.2.2.1
    split at hn
    · rw [decide_eq_false_iff_not] at hn
      simp only at hn
      omega
    · rw [decide_eq_false_iff_not] at hn
      simp only at hn
      exact ⟨by omega, by omega⟩
  have p1 := s1_pos lab (fun i k => (tabX ws gap l i k).2 * gap + 0 * 0) a b (fun i k hi hk h1 h2 => by have := (hall i k hi hk h1 h2).1; rw [Int.mul_comm] at this; omega) ha hb la lb
  have p2 := s1_pos lab (fun i k => (tabX ws gap l i k).1 * D + (tabX ws gap l i k).2 * (-(N * gap))) a b (fun i k hi hk h1 h2 => by
    have := (hall i k hi hk h1 h2).2
    have e : (tabX ws gap l i k).2 * (-(N * gap)) = -(N * (gap * (tabX ws gap l i k).2)) := by rw [Int.mul_neg, Int.mul_comm (tabX ws gap l i k).2, Int.mul_assoc]
    rw [e]; omega) ha hb la lb
  rw [s1_lin lab (fun i k => (tabX ws gap l i k).2) (fun _ _ => 0) gap 0] at p1
  rw [s1_lin lab (fun i k => (tabX ws gap l i k).1) (fun i k => (tabX ws gap l i k).2)] at p2
  unfold ratS sumS ratC leF at h
  simp only at h
  rw [Int.mul_comm gap, if_neg (by omega), decide_eq_true_eq] at h
  simp only at h
  have e : s1 lab (fun i k => (tabX ws gap l i k).2) (a : Int) (b : Int) * (-(N * gap)) = -(N * (s1 lab (fun i k => (tabX ws gap l i k).2) (a : Int) (b : Int) * gap)) := by
    rw [Int.mul_neg, ← Int.mul_assoc N, Int.mul_comm _ (N * gap), Int.mul_assoc N gap, Int.mul_comm gap, ← Int.mul_assoc N]
  rw [e] at p2
  omega
/-- Classes that single linkage has too. -/
def AvgOk (ws : List Int) (gap : Int) (l : List FD) (N D : Int) (lab : List Int) : Prop := (∃ E, Canon (l.map (·.has)) E lab) ∧ ∀ i j, (l.map (·.has))[i]? = some true → (l.map (·.has))[j]? = some true → labAt lab i = labAt lab j → Conn (nearE ws gap l N D) i j
theorem canon_has {has : List Bool} {E : Nat → Nat → Prop} {lab : List Int} (h : Canon has E lab) {i : Nat} (hi : i < lab.length) (h0 : 0 ≤ labAt lab i) : has[i]? = some true := by
  have hi' : i < has.length := by rw [← h.len]; exact hi
  cases e : has[i] with
  | true => rw [List.getElem?_eq_getElem hi', e]
  | false => have := h.no i (by rw [List.getElem?_eq_getElem hi', e]); omega
theorem AvgOk.step {ws : List Int} {gap : Int} {l : List FD} {N D : Int} (hc : checkC ws gap = 0) (hw : ∀ f ∈ l, checkW f.w.w = 0) (hN : 0 ≤ N) {lab : List Int} (h : AvgOk ws gap l N D lab) {a b : Nat} (hab : a < b) (hb : b < lab.length) (la : labAt lab a = (a : Int)) (lb : labAt lab b = (b : Int))
    (hl : leF (ratS ws gap l lab a b) (N, D) = true) : AvgOk ws gap l N D (uniteL lab a b) := by
  obtain ⟨⟨E, hC⟩, hcon⟩ := h
  obtain ⟨i0, k0, hi0, hk0, li0, lk0, hnear⟩ := exists_near hc hw hN (by omega) hb la lb hl
  have hhi : (l.map (·.has))[i0]? = some true := canon_has hC hi0 (by omega)
  have hhk : (l.map (·.has))[k0]? = some true := canon_has hC hk0 (by omega)
  have hlen : lab.length = l.length := by rw [hC.len, List.length_map]
  have hne : i0 ≠ k0 := fun e => by rw [e, lk0] at li0; omega
  have cik : Conn (nearE ws gap l N D) i0 k0 := by
    rcases Nat.lt_or_ge i0 k0 with h1 | h1
    · exact .edge ⟨h1, by omega, hhi, hhk, hnear⟩
    · exact .symm (.edge ⟨by omega, by omega, hhk, hhi, by rw [nearB_comm]; exact hnear⟩)
  refine ⟨canon_unite hC (by omega) hb la lb, fun i j hi hj he => ?_⟩
  have hil : i < lab.length := by rw [hC.len]; exact (List.getElem?_eq_some_iff.1 hi).1
  have hjl : j < lab.length := by rw [hC.len]; exact (List.getElem?_eq_some_iff.1 hj).1
  rw [unite_at hab i hil, unite_at hab j hjl] at he
  by_cases h1 : labAt lab i = (b : Int)
  · by_cases h2 : labAt lab j = (b : Int)
    · exact hcon i j hi hj (by omega)
    · rw [if_pos h1, if_neg h2] at he
      exact ((hcon i k0 hi hhk (by omega)).trans cik.symm).trans (hcon i0 j hhi hj (by omega))
  · by_cases h2 : labAt lab j = (b : Int)
    · rw [if_neg h1, if_pos h2] at he
      exact ((hcon i i0 hi hhi (by omega)).trans cik).trans (hcon k0 j hhk hj (by omega))
    · rw [if_neg h1, if_neg h2] at he
      exact hcon i j hi hj he
theorem AvgOk.run {ws : List Int} {gap : Int} {l : List FD} {N D : Int} (hc : checkC ws gap = 0) (hw : ∀ f ∈ l, checkW f.w.w = 0) (hN : 0 ≤ N) : ∀ (m : Nat) {lab : List Int}, AvgOk ws gap l N D lab → AvgOk ws gap l N D (avgN ws gap l N D m lab)
  | 0, lab, h => h
  | m + 1, lab, h => by
    unfold avgN
    split
    · exact h
    · rename_i hn
      rcases leastL_ok (ratS ws gap l lab) lab (pairsN lab).length (Nat.le_refl _) with ⟨h1, _⟩ | ⟨a, b, e, h1, h2, h3, h4⟩
      · exact absurd (.inl (by show (leastL _ _ _).i < 0; rw [h1]; decide)) hn
      · have e' : leastA ws gap l lab = ⟨a, b, ratS ws gap l lab a b⟩ := e
        rw [e'] at hn ⊢
        refine AvgOk.run hc hw hN m (h.step hc hw hN h1 h2 h3 h4 ?_)
        cases hle : leF (ratS ws gap l lab a b) (N, D) with
        | true => rfl
        | false => exact absurd (.inr hle) hn
theorem AvgOk.alone (ws : List Int) (gap : Int) (l : List FD) (N D : Int) : AvgOk ws gap l N D (aloneL (l.map (·.has))) := by
  refine ⟨⟨_, Canon.alone _⟩, fun i j hi hj he => ?_⟩
  have := ((Canon.alone (l.map (·.has))).conn i j hi hj).1 he
  exact this.mono fun _ _ h => h.elim
end Go.Proofs.YthabfpagilbplaaDoor
/- Chapter 19: the law Finer. -/
namespace Go.Sy
open Go Go.RowKit
/-- It has all that m has. -/
def Mem.le (m m' : Mem) : Prop := ∀ b o, m b = some o → m' b = some o
theorem Mem.le.refl (m : Mem) : m.le m := fun _ _ h => h
theorem Mem.le.trans {m m' m'' : Mem} (h : m.le m') (k : m'.le m'') : m.le m'' := fun b o x => k b o (h b o x)
theorem Mem.le.keep {m m' : Mem} (h : m.le m') {b : Nat} (hb : m b ≠ none) : m' b = m b := by
  cases e : m b with
  | none => exact absurd e hb
  | some o => exact h b o e
theorem Mem.le.mv {m m' : Mem} (h : m.le m') : m.mv.le m'.mv := by
  refine ⟨fun b o v hv => ?_, fun b es hv => ?_⟩
  · unfold Mem.mv at hv ⊢
    rw [Mv.on_c] at hv ⊢
    cases hb : m b with
    | none => rw [hb] at hv; cases hv
    | some x => rw [h b x hb]; rw [hb] at hv; exact hv
  · unfold Mem.mv at hv ⊢
    rw [Mv.on_m] at hv ⊢
    cases hb : m b with
    | none => rw [hb] at hv; cases hv
    | some x => rw [h b x hb]; rw [hb] at hv; exact hv
theorem Row.le {m m' : Mem} {e : TypeId} {size : Nat} {q : Option Addr} {cap n : Nat} {xs : List Value} (h : Row m e size q cap n xs) (hle : m.le m') : Row m' e size q cap n xs := h.keep fun _ _ hb => hle.keep hb
section
variable {P : Program} {c : Cx} {L : List Nat} {ρ : Env} {blks : List Blk} {m : Mem} {R : Value → HW → Prop} {Dn : Nat → List U → HW → Prop} {A : List (List U → HW → Prop)}
/-- A call that answers with new memory: what was there is there, and what is new. -/
theorem DenM.callE {p : Bool} {f : FuncId} {args : List SV} {sh : Sh} {k : Tree} {vs : List Value} {pre : Mv → Prop} {Q : Value → Mem → Mv → Prop} (hc : FnM P f vs pre Q) (hpre : Good c L m → pre (vw c L ρ blks m))
    (hk : ∀ v mq m', m.le m' → mq.le m' → Q v mq ((vw c L ρ blks m).on mq) → ∃ us, UOk sh us ∧ v = (sh.fresh ρ.length).1.den L (ρ ++ us) ∧ DenM P R Dn k L (ρ ++ us) c m' A) (hargs : SV.dens L ρ args = vs := by rfl) (hs : scBlks ρ.length blks = true := by rfl) : DenM P R Dn (.call p f args sh blks k) L ρ c m A :=
  .callM hc hargs hs hpre fun v mq hfr hQ => hk v mq _ (fun b o hb => by unfold Mem.join; rw [hb]) (fun b o hb => by unfold Mem.join; rw [(hfr b (by rw [hb]; simp)).1, hb]) hQ
end
end Go.Sy
namespace Go.Proofs.YthabfpagilbplaaDoor
open Go Go.Sy Go.RowKit
theorem RowI.le' {m m' : Mem} {q : Option Addr} {cq : Nat} {l : List Int} (h : RowI m q cq l) (hle : m.le m') : RowI m' q cq l := h.keep fun _ _ hb => hle.keep hb
end Go.Proofs.YthabfpagilbplaaDoor
namespace Go.Sy
open Go Go.RowKit Go.Proofs.YthabfpagilbplaaDoor
/-- A call that answers with numbers and an error. -/
theorem DenM.callI {P : Program} {c : Cx} {L : List Nat} {ρ : Env} {blks : List Blk} {m : Mem} {R : Value → HW → Prop} {Dn : Nat → List U → HW → Prop} {A : List (List U → HW → Prop)} {p : Bool} {f : FuncId} {args : List SV} {k : Tree} {vs : List Value} {pre : Mv → Prop} {x : List Int} {e : Int}
    (hc : FnM P f vs pre fun v mq _ => ∃ q cq, v = .tuple #[slv q x.length cq, .int .i64 e] ∧ RowI mq q cq x) (hpre : Go.Sy.Good c L m → pre (vw c L ρ blks m))
    (hk : ∀ q cq m', m.le m' → RowI m' q cq x → DenM P R Dn k L (ρ ++ [.p q, .i x.length, .i cq, .i e]) c m' A) (hargs : SV.dens L ρ args = vs := by rfl) (hs : scBlks ρ.length blks = true := by rfl) : DenM P R Dn (.call p f args (.tup [.sl, .int .i64]) blks k) L ρ c m A := by
  refine .callE hc hpre ?_ hargs hs
  rintro v mq m' h1 h2 ⟨q, cq, rfl, hr⟩
  exact ⟨[.p q, .i (x.length : Nat), .i cq, .i e], uOk_of rfl, (tab_fresh _ _ _ _ _ _).symm, hk q cq m' h1 (hr.le' h2)⟩
end Go.Sy
namespace Go.Proofs.YthabfpagilbplaaDoor
open Go Go.Sy Go.RowKit
theorem labelsE_ok {ws : List Int} {gap : Int} {l : List FD} {N D : Int} (h : check19 ws gap l N D = 0) : labelsE ws gap l N D = (labelsF ws gap l N D, 0) := by unfold labelsE; rw [if_neg (by simp [h])]; rfl
theorem labelsF_len (ws : List Int) (gap : Int) (l : List FD) (N D : Int) : (labelsF ws gap l N D).length = l.length := labels0_len ..
theorem FormsAt.take {R : Mv} {q : Option Addr} {l : List FD} (h : FormsAt R q l) (n : Nat) : FormsAt R q (l.take n) := by
  refine ⟨?_, fun f hf => h.2 f (List.mem_of_mem_take hf)⟩
  have : fcells l = fcells (l.take n) ++ fcells (l.drop n) := by
    conv => lhs; rw [← List.take_append_drop n l]
    unfold fcells; rw [List.flatMap_append]
  have h1 := h.1
  rw [this] at h1
  exact h1.take
end Go.Proofs.YthabfpagilbplaaDoor
/- Chapter 19: limits, plainly; words compared. -/
namespace Go.Sy
open Go Go.RowKit
section
variable {P : Program} {c : Cx} {L : List Nat} {ρ : Env} {blks : List Blk} {m : Mem} {R : Value → HW → Prop} {Dn : Nat → List U → HW → Prop} {A : List (List U → HW → Prop)}
end
end Go.Sy
namespace Go.Proofs.YthabfpagilbplaaDoor
open Go Go.Sy Go.RowKit
/-! All words in one class. -/
end Go.Proofs.YthabfpagilbplaaDoor
