/- Chapter 30: the results of a model, one by one; what a model supports. -/
import Derived.Test.YtpbbnmjkbfbelaaDoorJg
set_option linter.unusedSimpArgs false
set_option linter.unusedVariables false
namespace Go.Sy
open Go Go.RowKit
/-- All that is known of cells, and of maps. -/
noncomputable def Mv.all (h : HW) : Mv where
  c b o := by
    classical
    exact if q : ∃ v, ∀ w, h.H w → w.cell? ⟨b, o, none⟩ = some v then some (Classical.choose q) else none
  m b := by
    classical
    exact if q : ∃ es, ∀ w, h.H w → (Mv.of w).m b = some es then some (Classical.choose q) else none
theorem Mv.all_c (h : HW) (b o : Nat) [Decidable (∃ v, ∀ w, h.H w → w.cell? ⟨b, o, none⟩ = some v)] : (Mv.all h).c b o = if q : ∃ v, ∀ w, h.H w → w.cell? ⟨b, o, none⟩ = some v then some (Classical.choose q) else none := by
  unfold Mv.all; simp only; congr
theorem Mv.all_m (h : HW) (b : Nat) [Decidable (∃ es, ∀ w, h.H w → (Mv.of w).m b = some es)] : (Mv.all h).m b = if q : ∃ es, ∀ w, h.H w → (Mv.of w).m b = some es then some (Classical.choose q) else none := by
  unfold Mv.all; simp only; congr
open Classical in
theorem Mv.all_le {h : HW} {w : World} (hw : h.H w) : (Mv.all h).le (Mv.of w) := ⟨fun b o v hv => by
  rw [Mv.all_c] at hv
  split at hv
  · rename_i q
    cases hv
    exact Classical.choose_spec q w hw
  · exact absurd hv (by simp), fun b es hv => by
  rw [Mv.all_m] at hv
  split at hv
  · rename_i q
    cases hv
    exact Classical.choose_spec q w hw
  · exact absurd hv (by simp)⟩
open Classical in
theorem Mv.all_of {h : HW} (hw : ∃ w, h.H w) {b o : Nat} {v : Value} (hv : ∀ w, h.H w → w.cell? ⟨b, o, none⟩ = some v) : Mv.all h b o = some v := by
  obtain ⟨w, hw⟩ := hw
  have q : ∃ v, ∀ w, h.H w → w.cell? ⟨b, o, none⟩ = some v := ⟨v, hv⟩
  rw [Mv.all_c, dif_pos q]
  have h1 := Classical.choose_spec q w hw
  rw [hv w hw] at h1
  exact h1.symm
open Classical in
theorem Mv.all_ofm {h : HW} (hw : ∃ w, h.H w) {b : Nat} {es : Array MapEntry} (hv : ∀ w, h.H w → (Mv.of w).m b = some es) : (Mv.all h).m b = some es := by
  obtain ⟨w, hw⟩ := hw
  have q : ∃ es, ∀ w, h.H w → (Mv.of w).m b = some es := ⟨es, hv⟩
  rw [Mv.all_m, dif_pos q]
  have h1 := Classical.choose_spec q w hw
  rw [hv w hw] at h1
  exact h1.symm
theorem Mv.le_all {h : HW} (hw : ∃ w, h.H w) {S : Mv} (hS : ∀ w, h.H w → S.le (Mv.of w)) : S.le (Mv.all h) := ⟨fun _ _ _ hv => Mv.all_of hw fun w hw' => (hS w hw').c _ _ _ hv, fun _ _ hv => Mv.all_ofm hw fun w hw' => (hS w hw').m _ _ hv⟩
theorem cells_all {h : HW} (hw : ∃ w, h.H w) {p : Option Addr} {xs : List Value} (hc : ∀ w, h.H w → Cells (Mv.of w) p xs) : Cells (Mv.all h) p xs := fun i x hx => by
  obtain ⟨w, hw'⟩ := hw
  obtain ⟨b, o, hp, _⟩ := hc w hw' i x hx
  refine ⟨b, o, hp, Mv.all_of ⟨w, hw'⟩ fun w2 h2 => ?_⟩
  obtain ⟨b', o', hp', h3⟩ := hc w2 h2 i x hx
  rw [hp] at hp'; cases hp'
  exact h3
theorem RowW.cells_of {m : Mem} {et : TypeId} {q : Option Addr} {cap : Nat} {x : List Snd} (h : RowW m et q cap x) {w : World} (hw : (HW.mem m).H w) : Cells (Mv.of w) q (wcells x) := by
  by_cases hx : x = []
  · rw [hx]; exact fun i y hy => by simp [wcells] at hy
  · refine (h.row hx).cells fun g cur hg o => ?_
    have := hw g _ hg
    simp only [Mv.of, World.cell?, this]
    rfl
theorem cells_of_mem {c : Cx} {L : List Nat} {ρ : Env} {blks : List Blk} {m : Mem} (g : Good c L m) {b : Nat} {xs : List Value} {e : TypeId} (h : m b = some (.cells xs.toArray e (0, 0))) : Cells (vw c L ρ blks m) (some ⟨b, 0, none⟩) xs := fun i x hx => ⟨b, 0, rfl, by rw [vw_mem g h, Nat.zero_add]; simpa using hx⟩
/-- The results of a model. -/
def resW (a b c : List Snd) : List (List Snd) :=
  match solveW a b c, frontW a b c with
  | some x, some y => if x = y then [x] else [x, y]
  | some x, none => [x]
  | none, some y => [y]
  | none, none => []
def supW (a b c d : List Snd) : Bool := decide (d ∈ resW a b c)
/-- What the k-th yield has. -/
def ResX (l : List (List Snd)) (k : Nat) (ux : List U) (mx : Mem) : Prop := ∃ q cq w, l[k]? = some w ∧ ux = [.p q, .i (w.length : Nat), .i (cq : Nat)] ∧ RowW mx 31 q cq w
def box2 (b0 b1 : Nat) (A B C : WD) : Mem := (Mem.emp.upd b1 (.cells #[C.v] 22 (0, 0))).upd b0 (.cells #[A.v, B.v] 69 (0, 0))
theorem applyE_len {x y c w : List Snd} (h : applyE x y c = some w) : w.length ≤ c.length + y.length := by
  unfold applyE at h
  split at h
  · cases h; simp only [List.length_append, List.length_take, List.length_drop]; omega
  · cases h
theorem applyF_len {x y c w : List Snd} (h : applyF x y c = some w) : w.length ≤ c.length + y.length := by
  unfold applyF at h
  split at h
  · cases h; simp only [List.length_append, List.length_take, List.length_drop]; omega
  · cases h
theorem solveW_len {a b c w : List Snd} (h : solveW a b c = some w) : w.length ≤ c.length + b.length := by
  have := applyE_len h
  have := List.length_drop (l := b) (i := cpl a b)
  omega
theorem frontW_len {a b c w : List Snd} (h : frontW a b c = some w) : w.length ≤ c.length + b.length := by
  have := applyF_len h
  have := List.length_take_le' (l := b) (i := b.length - csl a b)
  omega
theorem resW_len {a b c w : List Snd} (h : w ∈ resW a b c) : w.length ≤ c.length + b.length := by
  unfold resW at h
  split at h
  · rename_i x y hx hy
    split at h
    · simp at h; subst h; exact solveW_len hx
    · simp at h
      rcases h with rfl | rfl
      · exact solveW_len hx
      · exact frontW_len hy
  · rename_i x hx hy; simp at h; subst h; exact solveW_len hx
  · rename_i y hx hy; simp at h; subst h; exact frontW_len hy
  · simp at h
end Go.Sy
namespace Go.Proofs.YtpbbnmjkbfbelaaDoor
open Go Go.Sy Go.RowKit
theorem c_results (A B C : WD) : FnM Tryd.prog n_analogy_results [.agg #[A.v, B.v], C.v] (fun _ => True) fun v mq _ => ∃ b0 b1, v = .func (.func n_analogy_results_1) #[] #[.pointer (some ⟨b0, 0, none⟩), .pointer (some ⟨b1, 0, none⟩)] ∧ mq = box2 b0 b1 A B C ∧ b0 ≠ b1 :=
  FnM.of S_analogy_results mx [.p A.p, .i A.w.length, .i A.cap, .p B.p, .i B.w.length, .i B.cap, .p C.p, .i C.w.length, .i C.cap] rfl rfl fun c _ => .alloc fun b0 => .alloc fun b1 => .retL rfl fun g => ⟨b0, b1, rfl, rfl, by
    have := g.nd
    simp at this
    omega⟩
def ResAt (A B C : WD) (S : Mv) : Prop := WordAt S A.p A.w ∧ WordAt S B.p B.w ∧ WordAt S C.p C.w ∧ VarsOk S
theorem ResAt.mono {A B C : WD} {S S' : Mv} (h : ResAt A B C S) (hle : S.le S') : ResAt A B C S' := ⟨h.1.mono hle, h.2.1.mono hle, h.2.2.1.mono hle, h.2.2.2.mono hle⟩
set_option maxHeartbeats 1000000 in
theorem it_results (A B C : WD) (oa : A.ok) (ob : B.ok) (oc : C.ok) (la : A.w.length < 2 ^ 38) (lb : B.w.length < 2 ^ 38) (lc : C.w.length < 2 ^ 38) (b0 b1 : Nat) (h01 : b0 ≠ b1) (S : Mv) (hS : ResAt A B C S) :
    IterX Tryd.prog n_analogy_results_1 #[.pointer (some ⟨b0, 0, none⟩), .pointer (some ⟨b1, 0, none⟩)] (fun w => S.le (Mv.of w)) (HW.mem (box2 b0 b1 A B C)) (resW A.w B.w C.w).length fun k x hx => ∃ ux mx, ResX (resW A.w B.w C.w) k ux mx ∧ hx = HW.mem mx ∧ x = SV.dens [] ux (Sh.freshs [.sl] 0).1 := by
  refine IterX.of S_analogy_results_1 mx [.p (some ⟨b0, 0, none⟩), .p (some ⟨b1, 0, none⟩)] (fun yv => rfl) (fun yv h => by simp [Sh.eats, Sh.eat, eatV, eatP, h]) ?_
  intro yv J E hyv hy hpre h hw hJ hdj
  have e0 : box2 b0 b1 A B C b0 = some (.cells [A.v, B.v].toArray 69 (0, 0)) := Mem.upd_same ..
  have e1 : box2 b0 b1 A B C b1 = some (.cells [C.v].toArray 22 (0, 0)) := by unfold box2; rw [Mem.upd_other _ _ (Ne.symm h01), Mem.upd_same]
  generalize box2 b0 b1 A B C = m0 at *
  have hxs : ∀ (q : Option Addr) (n cq : Nat), SV.dens [] [.p q, .i n, .i cq] (Sh.freshs [.sl] 0).1 = [slv q n cq] := fun q n cq => by
    have := slv_fresh [] [] q n cq
    simp only [Sh.freshs, SV.dens]
    rw [← this]; rfl
  have hX : ∀ {k : Nat} {q : Option Addr} {cq : Nat} {w : List Snd} {mx : Mem}, (resW A.w B.w C.w)[k]? = some w → RowW mx 31 q cq w → ∃ ux mx', ResX (resW A.w B.w C.w) k ux mx' ∧ HW.mem mx = HW.mem mx' ∧ [slv q w.length cq] = SV.dens [] ux (Sh.freshs [.sl] 0).1 := fun {k q cq w mx} h1 h2 => ⟨_, mx, ⟨q, cq, w, h1, rfl, h2⟩, rfl, (hxs q w.length cq).symm⟩
  -- with all that is known around
  have hfull : ∀ {hT : HW} (hw : ∃ w, hT.H w) {k : Nat}, J k hT → ResAt A B C (Mv.all hT) := fun hw k hJ => hS.mono (Mv.le_all hw fun w hT => hpre k _ w hJ hT)
  refine .into (S := Mv.all h) hw (fun w hT => Mv.all_le hT) ?_
  have hR := hfull hw hJ
  refine .loadE (fun g => hR.2.2.2.mono g.R) (.env (by (try simp only [liE, letsOf, letU, snd, List.append_nil]); rfl) (.chk rfl (.loadS [A.v, B.v] 0 A.p A.w.length A.cap rfl rfl (fun g => cells_of_mem g e0) (.env (by (try simp only [liE, letsOf, letU, snd, List.append_nil]); rfl) (.chk rfl (.loadS [A.v, B.v] 1 B.p B.w.length B.cap rfl rfl (fun g => cells_of_mem g e0) (.env (by (try simp only [liE, letsOf, letU, snd, List.append_nil]); rfl) (.loadS [C.v] 0 C.p C.w.length C.cap rfl rfl (fun g => cells_of_mem g e1) (.env (by (try simp only [liE, letsOf, letU, snd, List.append_nil]); rfl) (.callM (c_chgE A B C oa ob oc la lb lc) rfl rfl (fun g => ⟨hR.1.mono g.R, hR.2.1.mono g.R, hR.2.2.1.mono g.R⟩) ?_))))))))))
  rintro v mq hf ⟨q, cq, rfl, hr⟩
  cases hs : solveW A.w B.w C.w with
  | none =>
    rw [hs] at hr
    replace e0 := (Mem.join_old (mq := mq) (by rw [e0]; simp)).trans e0
    replace e1 := (Mem.join_old (mq := mq) (by rw [e1]; simp)).trans e1
    refine ⟨[.p q, .i 0, .i (cq : Nat), .b false], uOk_of rfl, (opt_fresh _ _ _ _ _ _).symm, .env (by (try simp only [liE, letsOf, letU, snd, List.append_nil]); rfl) (.no rfl ?_)⟩
    generalize m0.join mq = m1 at *
    clear hf hr
    refine .loadF (fun g => hR.2.2.2.mono g.R) (.env (by (try simp only [liE, letsOf, letU, snd, List.append_nil]); rfl) (.chk rfl (.loadS [A.v, B.v] 0 A.p A.w.length A.cap rfl rfl (fun g => cells_of_mem g e0) (.env (by (try simp only [liE, letsOf, letU, snd, List.append_nil]); rfl) (.chk rfl (.loadS [A.v, B.v] 1 B.p B.w.length B.cap rfl rfl (fun g => cells_of_mem g e0) (.env (by (try simp only [liE, letsOf, letU, snd, List.append_nil]); rfl) (.loadS [C.v] 0 C.p C.w.length C.cap rfl rfl (fun g => cells_of_mem g e1) (.env (by (try simp only [liE, letsOf, letU, snd, List.append_nil]); rfl) (.callM (c_chgF A B C oa ob oc la lb lc) rfl rfl (fun g => ⟨hR.1.mono g.R, hR.2.1.mono g.R, hR.2.2.1.mono g.R⟩) ?_))))))))))
    rintro v mq2 hf2 ⟨q2, cq2, rfl, hr2⟩
    cases hs2 : frontW A.w B.w C.w with
    | none =>
      have hl : (resW A.w B.w C.w).length = 0 := by unfold resW; rw [hs, hs2]; rfl
      rw [hl]
      rw [hs2] at hr2
      exact ⟨[.p q2, .i 0, .i (cq2 : Nat), .b false], uOk_of rfl, (opt_fresh _ _ _ _ _ _).symm, .env (by (try simp only [liE, letsOf, letU, snd, List.append_nil]); rfl) (.no rfl (.stop (.inl hJ)))⟩
    | some y =>
      have hl : resW A.w B.w C.w = [y] := by unfold resW; rw [hs, hs2]
      rw [hs2] at hr2
      refine ⟨[.p q2, .i (y.length : Nat), .i (cq2 : Nat), .b true], uOk_of rfl, (opt_fresh _ _ _ _ _ _).symm, .env (by (try simp only [liE, letsOf, letU, snd, List.append_nil]); rfl) (.yes rfl (.yieldX hy hJ (hX (k := 0) (by rw [hl]; rfl) hr2) rfl (fun b hb => ?_) (fun hT' hw' hJ' _ => .stop (.inl ?_)) (fun hT' hE => .stop (.inr hE))))⟩
      · cases hq : mq2 b with
        | none => rfl
        | some o => exact absurd (hf2 b (by rw [hq]; simp)).1 hb
      · rw [hl]; exact hJ'
  | some x =>
    rw [hs] at hr
    refine ⟨[.p q, .i (x.length : Nat), .i (cq : Nat), .b true], uOk_of rfl, (opt_fresh _ _ _ _ _ _).symm, .env (by (try simp only [liE, letsOf, letU, snd, List.append_nil]); rfl) (.yes rfl ?_)⟩
    have h0 : (resW A.w B.w C.w)[0]? = some x := by
      unfold resW
      rw [hs]
      cases frontW A.w B.w C.w with
      | none => rfl
      | some y => simp only; split <;> rfl
    have hxl : x.length < 2 ^ 40 := by have := solveW_len hs; omega
    refine .yieldX hy hJ (hX (k := 0) h0 hr) rfl (fun b hb => ?_) (fun hT' hw' hJ' hret => ?_) (fun hT' hE => .env (by (try simp only [liE, letsOf, letU, snd, List.append_nil]); rfl) (.yes rfl (.stop (.inr hE))))
    · cases hq : mq b with
      | none => rfl
      | some o => exact absurd (hf b (by rw [hq]; simp)).1 hb
    have hR2 := hfull hw' hJ'
    have hxr : WordAt (Mv.all hT') q x := cells_all hw' fun w hT => hr.cells_of (hret w hT)
    refine .env (by (try simp only [liE, letsOf, letU, snd, List.append_nil]); rfl) (.no rfl (.into (S := Mv.all hT') hw' (fun w hT => Mv.all_le hT) ?_))
    refine .loadF (fun g => hR2.2.2.2.mono g.R) (.env (by (try simp only [liE, letsOf, letU, snd, List.append_nil]); rfl) (.chk rfl (.loadS [A.v, B.v] 0 A.p A.w.length A.cap rfl rfl (fun g => cells_of_mem g e0) (.env (by (try simp only [liE, letsOf, letU, snd, List.append_nil]); rfl) (.chk rfl (.loadS [A.v, B.v] 1 B.p B.w.length B.cap rfl rfl (fun g => cells_of_mem g e0) (.env (by (try simp only [liE, letsOf, letU, snd, List.append_nil]); rfl) (.loadS [C.v] 0 C.p C.w.length C.cap rfl rfl (fun g => cells_of_mem g e1) (.env (by (try simp only [liE, letsOf, letU, snd, List.append_nil]); rfl) (.callM (c_chgF A B C oa ob oc la lb lc) rfl rfl (fun g => ⟨hR2.1.mono g.R, hR2.2.1.mono g.R, hR2.2.2.1.mono g.R⟩) ?_))))))))))
    rintro v mq2 hf2 ⟨q2, cq2, rfl, hr2⟩
    cases hs2 : frontW A.w B.w C.w with
    | none =>
      have hl : (resW A.w B.w C.w).length = 1 := by unfold resW; rw [hs, hs2]; rfl
      rw [hl]
      rw [hs2] at hr2
      exact ⟨[.p q2, .i 0, .i (cq2 : Nat), .b false], uOk_of rfl, (opt_fresh _ _ _ _ _ _).symm, .env (by (try simp only [liE, letsOf, letU, snd, List.append_nil]); rfl) (.no rfl (.stop (.inl hJ')))⟩
    | some y =>
      rw [hs2] at hr2
      have hr3 := hr2.joinR (m := m0) fun b hb => (hf2 b hb).1
      refine ⟨[.p q2, .i (y.length : Nat), .i (cq2 : Nat), .b true], uOk_of rfl, (opt_fresh _ _ _ _ _ _).symm, .env (by (try simp only [liE, letsOf, letU, snd, List.append_nil]); rfl) (.yes rfl (.callV (c_wordEqual q q2 cq cq2 x y (by omega)) (fun g => ⟨hxr.mono g.R, hr3.reads g⟩) (.env (by (try simp only [liE, letsOf, letU, snd, List.append_nil]); rfl) ?_)))⟩
      by_cases he : x = y
      · have hl : (resW A.w B.w C.w).length = 1 := by unfold resW; rw [hs, hs2]; simp [he]
        rw [hl]
        exact .no (by ((try simp only [evE, liE, letsOf, letU, snd]); (try simp only [cmE])); simp [he]) (.stop (.inl hJ'))
      · have hl : resW A.w B.w C.w = [x, y] := by unfold resW; rw [hs, hs2]; simp [he]
        refine .yes (by ((try simp only [evE, liE, letsOf, letU, snd]); (try simp only [cmE])); simp [he]) (.yieldX hy hJ' (hX (k := 1) (by rw [hl]; rfl) hr2) rfl (fun b hb => ?_) (fun hT' hw' hJ' _ => .stop (.inl ?_)) (fun hT' hE => .stop (.inr hE)))
        · cases hq : mq2 b with
          | none => rfl
          | some o => exact absurd (hf2 b (by rw [hq]; simp)).1 hb
        · rw [hl]; exact hJ'
end Go.Proofs.YtpbbnmjkbfbelaaDoor
