/- Layer 20: what is asked of cells. -/
import Derived.Test.YtkhcfbdjmpodbaaDoorBx
import Derived.Test.YtkhcfbdjmpodbaaDoorTi
import Derived.Test.YtkhcfbdjmpodbaaDoorTj
set_option linter.unusedSimpArgs false
set_option linter.unusedVariables false
namespace Go.Sy
open Go Go.RowKit
theorem c3_fresh (ρ : Env) (L : List Nat) (a b d : Int) : SV.dens L (ρ ++ [.i a, .i b, .i d]) (Sh.freshs [.int .i64, .int .u32, .int .u32] ρ.length).1 = [.int .i64 a, .int .u32 b, .int .u32 d] := by
  have e0 := getElem_env ρ [.i a, .i b, .i d] 0
  have e1 := getElem_env ρ [.i a, .i b, .i d] 1
  have e2 := getElem_env ρ [.i a, .i b, .i d] 2
  simp only [Sh.fresh, Sh.freshs, SV.den, SV.dens, IT.eval, Env.int, Nat.add_assoc] at e0 e1 e2 ⊢
  rw [Nat.add_zero] at e0
  rw [e0, e1, e2]
  rfl
theorem DenM.loadCE {P : Program} {c : Cx} {L : List Nat} {ρ : Env} {blks : List Blk} {m : Mem} {R : Value → HW → Prop} {Dn : Nat → List U → HW → Prop} {A : List (List U → HW → Prop)} {i : Nat} {I len : IT} {k : Tree} (l : List CE) (j : Nat) (hj : j < l.length) (hw : Good c L m → Cells (vw c L ρ blks m) (ρ.ptr i) (ccells l)) (hk : DenM P R Dn k L (ρ ++ [.i l[j].1, .i (l[j].2.1 : Int), .i (l[j].2.2 : Int)]) c m A) (hI : I.eval ρ = (j : Int) := by rfl) (hn : len.eval ρ = (l.length : Int) := by rfl) :
    DenM P R Dn (.chk (.pick (.cmp .geq I (.lit 0)) (.pick (.cmp .lss I len) (.some i) (.lit false)) (.lit false)) (.load i (.off I 3 (.lit 0)) [(.int .i64), (.int .u32), (.int .u32)] blks k)) L ρ c m A := by
  refine .elem [.i l[j].1, .i (l[j].2.1 : Int), .i (l[j].2.2 : Int)] (ccells l) j l.length hI hn hj rfl hw (by rw [ccells_len]; omega) (fun q v hv => ?_) hk
  rw [c3_fresh] at hv
  have hq : q < 3 := by
    rcases Nat.lt_or_ge q 3 with h | h
    · exact h
    · rw [List.getElem?_eq_none (by simpa using h)] at hv; cases hv
  rw [ccells_at l hj q hq]
  exact hv
section
variable {P : Program} {c : Cx} {L : List Nat} {ρ : Env} {blks : List Blk} {m : Mem} {R : Value → HW → Prop} {Dn : Nat → List U → HW → Prop} {A : List (List U → HW → Prop)}
theorem DenM.elemO {i : Nat} {I len : IT} {size : Nat} {sh : List Sh} {k : Tree} (us : List U) (xs : List Value) (hI : I.eval ρ = (0 : Nat)) (hn : len.eval ρ = (1 : Nat)) (hc : Good c L m → Cells (vw c L ρ blks m) (ρ.ptr i) xs) (hl : 0 < xs.length) (hk : DenM P R Dn k L (ρ ++ us) c m A) (hus : Sh.eats sh us = some [] := by rfl) (hv : SV.dens L (ρ ++ us) (Sh.freshs sh ρ.length).1 = xs := by rfl) :
    DenM P R Dn (.chk (.pick (.cmp .geq I (.lit 0)) (.pick (.cmp .lss I len) (.some i) (.lit false)) (.lit false)) (.load i (.off I size (.lit 0)) sh blks k)) L ρ c m A :=
  .elem us xs 0 1 hI hn (by omega) hus hc (by omega) (fun q v h => by rw [hv] at h; rw [Nat.zero_mul, Nat.zero_add]; exact h) hk
end
def okCE (x : CE) : Prop := (x.1 = 0 ∧ x.2 = (0, 0)) ∨ (x.1 = 1 ∧ x.2 = (0, 0)) ∨ (x.1 = 2 ∧ valid x.2 = true ∧ Sok x.2)
theorem Mv.on_le {R : Mv} {m : Mem} {w : World} (hR : R.le (Mv.of w)) (hm : ∀ b o, m b = some o → w.heap[b]? = some o) : (R.on m).le (Mv.of w) := by
  refine ⟨fun b o v h => ?_, fun b es h => ?_⟩
  · rw [Mv.on_c] at h
    cases hb : m b with
    | none => rw [hb] at h; exact hR.c b o v h
    | some x =>
      rw [hb] at h
      cases x with
      | cells cs e f =>
        show w.cell? ⟨b, o, none⟩ = some v
        unfold World.cell?
        simp only [hm b _ hb]
        exact h
      | _ => cases h
  · rw [Mv.on_m] at h
    cases hb : m b with
    | none => rw [hb] at h; exact hR.m b es h
    | some x =>
      rw [hb] at h
      cases x with
      | map es' k => cases h; exact Mv.of_m.2 ⟨k, hm b _ hb⟩
      | _ => cases h
theorem Mv.le_on {R : Mv} {m : Mem} (h : ∀ b o v, R.c b o = some v → m b ≠ none → False) (h2 : ∀ b es, R.m b = some es → m b ≠ none → False) : R.le (R.on m) := by
  refine ⟨fun b o v hv => ?_, fun b es hv => ?_⟩
  · rw [Mv.on_c]
    cases hb : m b with
    | none => exact hv
    | some x => exact (h b o v hv (by rw [hb]; simp)).elim
  · rw [Mv.on_m]
    cases hb : m b with
    | none => exact hv
    | some x => exact (h2 b es hv (by rw [hb]; simp)).elim
end Go.Sy
namespace Go.Proofs.YtkhcfbdjmpodbaaDoor
open Go Go.Sy Go.RowKit
theorem c_okCell (x : CE) (h : okCE x) : Ret Tryd.prog n_corr_valid [.agg #[.int .i64 x.1, .int .u32 x.2.1, .int .u32 x.2.2]] (.bool true) := by
  refine Fn.of S_corr_valid mx [.i x.1, .i x.2.1, .i x.2.2] rfl rfl fun c _ => .alloc fun b0 => ?_
  rcases h with ⟨h1, h2⟩ | ⟨h1, h2⟩ | ⟨h1, h2, h3⟩
  · rw [h1, h2]
    exact .yes rfl (.ret rfl rfl)
  · rw [h1, h2]
    exact .no rfl (.yes rfl (.ret rfl rfl))
  · rw [h1]
    have := c_valid x.2 h3
    rw [h2] at this
    exact .no rfl (.no rfl (.yes rfl (.callV this (fun _ => trivial) (.env (by (try simp only [liE, lO, lU, snd, aN]); rfl) (.ret rfl rfl)))))
theorem c_check1C (pl : Option Addr) (cl n : Nat) (k : Int) (hn : n ≤ 64) : FnM Tryd.prog n_corr_check_1 [.agg #[slv pl n cl, .int .i64 k]] (fun _ => True) fun v _ _ => v = .bool false :=
  Fn.of S_corr_check_1 mx [.p pl, .i n, .i cl, .i k] rfl rfl fun c _ => .alloc fun b0 => .chk (by ((try simp only [evE, liE, lO, lU, snd]); (try simp only [cmE])); omega) (.ret rfl (by
    show Value.bool (cm .gtr (n : Int) 64) = _
    rw [show cm .gtr (n : Int) 64 = false by simp [cm]; omega]))
theorem c_check2C (x : CE) (h : okCE x) : FnM Tryd.prog n_corr_check_2 [.agg #[.int .i64 x.1, .int .u32 x.2.1, .int .u32 x.2.2]] (fun _ => True) fun v _ _ => v = .bool false :=
  Fn.of S_corr_check_2 mx [.i x.1, .i x.2.1, .i x.2.2] rfl rfl fun c _ => .alloc fun b0 => .callV (c_okCell x h) (fun _ => trivial) (.env (by (try simp only [liE, lO, lU, snd, aN]); rfl) (.ret rfl rfl))
theorem c_idxC1 (q pl : Option Addr) (cq cl n : Nat) (hn : n ≤ 64) : RetP Tryd.prog n_slices_IndexFunc___api_Corr_api_Corr_ [slv q 1 cq, .func (.func n_corr_check_1) #[] #[]] (fun R => Cells R q [slv pl n cl, .int .i64 1]) (.int .i64 (-1)) := by
  refine Fn.of S_slices_IndexFunc___api_Corr_api_Corr_ mx [.p q, .i (1 : Nat), .i cq, .v (.func (.func n_corr_check_1) #[] #[])] rfl rfl fun c hp => .chk rfl ?_
  refine .loop (fun n us _ => ∃ (e : Int) (j : Nat), us = [.i e, .i j] ∧ n + j = 1) 1 ⟨0, 0, rfl, rfl⟩ ?_
  rintro z _ m _ ⟨e, j, rfl, hnj⟩
  refine .env (by (try simp only [liE, lO, lU, snd, aN]); rfl) (.ite (fun h1 => ?_) (fun h1 => .ret rfl rfl)) <;> ((try simp only [evE, liE, lO, lU, snd] at h1); (try simp only [cmE] at h1))
  obtain rfl : j = 0 := by omega
  refine .elemO [.p pl, .i n, .i cl, .i 1] [slv pl n cl, .int .i64 1] rfl rfl (fun g => hp.mono g.R) (by simp) (.env (by (try simp only [liE, lO, lU, snd, aN]); rfl) ?_)
  refine .callvR (r := .bool false) (FnV.of0 (by kernel_rfl) (c_check1C pl cl n 1 hn)) (fun _ => trivial) (fun m' _ => .env (by (try simp only [liE, lO, lU, snd, aN]); rfl) (.no rfl (.again rfl ⟨0, by omega, e, 1, ?_, rfl⟩)))
  (simp only [evE, liE, lO, lU, snd, Sh.uss, Sh.us, atAddr, map_add0, List.append_nil]); rw [add_i64 0 (by omega)]
theorem c_contC1 (q pl : Option Addr) (cq cl n : Nat) (hn : n ≤ 64) : RetP Tryd.prog n_slices_ContainsFunc___api_Corr_api_Corr_ [slv q 1 cq, .func (.func n_corr_check_1) #[] #[]] (fun R => Cells R q [slv pl n cl, .int .i64 1]) (.bool false) :=
  Fn.of S_slices_ContainsFunc___api_Corr_api_Corr_ mx [.p q, .i (1 : Nat), .i cq, .v (.func (.func n_corr_check_1) #[] #[])] rfl rfl fun c hp => .callV (c_idxC1 q pl cq cl n hn) (fun g => hp.mono g.R) (.env (by (try simp only [liE, lO, lU, snd, aN]); rfl) (.ret rfl rfl))
theorem c_idxC2 (pl : Option Addr) (cl : Nat) (l : List CE) (hl : l.length < 2 ^ 62) (h : ∀ x ∈ l, okCE x) : RetP Tryd.prog n_slices_IndexFunc___api_Cell_api_Cell_ [slv pl l.length cl, .func (.func n_corr_check_2) #[] #[]] (fun R => Cells R pl (ccells l)) (.int .i64 (-1)) := by
  refine Fn.of S_slices_IndexFunc___api_Cell_api_Cell_ mx [.p pl, .i l.length, .i cl, .v (.func (.func n_corr_check_2) #[] #[])] rfl rfl fun c hp => .chk (by ((try simp only [evE, liE, lO, lU, snd]); (try simp only [cmE])); omega) ?_
  refine .loop (fun n us _ => ∃ (e : Int) (j : Nat), us = [.i e, .i j] ∧ n + j = l.length) l.length ⟨0, 0, rfl, rfl⟩ ?_
  rintro n _ m _ ⟨e, j, rfl, hnj⟩
  refine .env (by (try simp only [liE, lO, lU, snd, aN]); rfl) (.ite (fun h1 => ?_) (fun h1 => .ret rfl rfl)) <;> ((try simp only [evE, liE, lO, lU, snd] at h1); (try simp only [cmE] at h1))
  have hj : j < l.length := by omega
  refine .loadCE l j hj (fun g => hp.mono g.R) (.env (by (try simp only [liE, lO, lU, snd, aN]); rfl) ?_)
  refine .callvR (r := .bool false) (FnV.of0 (by kernel_rfl) (c_check2C l[j] (h _ (List.getElem_mem hj)))) (fun _ => trivial) (fun m' _ => .env (by (try simp only [liE, lO, lU, snd, aN]); rfl) (.no rfl (.again rfl ⟨n - 1, by omega, e, j + 1, ?_, by omega⟩)))
  (simp only [evE, liE, lO, lU, snd, Sh.uss, Sh.us, atAddr, map_add0, List.append_nil]); rw [add_i64 j (by omega)]
theorem c_contC2 (pl : Option Addr) (cl : Nat) (l : List CE) (hl : l.length < 2 ^ 62) (h : ∀ x ∈ l, okCE x) : RetP Tryd.prog n_slices_ContainsFunc___api_Cell_api_Cell_ [slv pl l.length cl, .func (.func n_corr_check_2) #[] #[]] (fun R => Cells R pl (ccells l)) (.bool false) :=
  Fn.of S_slices_ContainsFunc___api_Cell_api_Cell_ mx [.p pl, .i l.length, .i cl, .v (.func (.func n_corr_check_2) #[] #[])] rfl rfl fun c hp => .callV (c_idxC2 pl cl l hl h) (fun g => hp.mono g.R) (.env (by (try simp only [liE, lO, lU, snd, aN]); rfl) (.ret rfl rfl))
structure CorrAt (R : Mv) (q pl : Option Addr) (cl : Nat) (l : List CE) : Prop where
  one : Cells R q [slv pl l.length cl, .int .i64 1]
  cells : Cells R pl (ccells l)
theorem CorrAt.mono {R S : Mv} {q pl : Option Addr} {cl : Nat} {l : List CE} (h : CorrAt R q pl cl l) (hle : R.le S) : CorrAt S q pl cl l := ⟨h.one.mono hle, h.cells.mono hle⟩
theorem c_corrCheck (q0 q pl : Option Addr) (c0 cq cl : Nat) (l : List CE) (hl : l.length ≤ 64) (h : ∀ x ∈ l, okCE x) : RetP Tryd.prog n_corr_check [slv q0 1 c0] (fun R => Cells R q0 [slv q 1 cq] ∧ CorrAt R q pl cl l) (.int .i64 0) := by
  refine Fn.of S_corr_check mx [.p q0, .i (1 : Nat), .i c0] rfl rfl fun c hp => .chk rfl ?_
  refine .loop (fun n us _ => ∃ (e : Int) (j : Nat), us = [.i e, .i j] ∧ n + j = 1) 1 ⟨0, 0, rfl, rfl⟩ ?_
  rintro n _ m _ ⟨e, j, rfl, hnj⟩
  refine .env (by (try simp only [liE, lO, lU, snd, aN]); rfl) (.ite (fun h1 => ?_) (fun h1 => .chk rfl ?_)) <;> ((try simp only [evE, liE, lO, lU, snd] at h1); (try simp only [cmE] at h1))
  · obtain rfl : j = 0 := by omega
    refine .elemO [.p q, .i (1 : Nat), .i cq] [slv q 1 cq] rfl rfl (fun g => hp.1.mono g.R) (by simp) (.env (by (try simp only [liE, lO, lU, snd, aN]); rfl) (.chk rfl (.no rfl ?_)))
    refine .callV (c_contC1 q pl cq cl l.length hl) (fun g => hp.2.one.mono g.R) (.env (by (try simp only [liE, lO, lU, snd, aN]); rfl) (.no rfl (.again rfl ⟨0, by omega, e, 1, ?_, rfl⟩)))
    (simp only [evE, liE, lO, lU, snd, Sh.uss, Sh.us, atAddr, map_add0, List.append_nil]); rw [add_i64 0 (by omega)]
  refine .loop (fun n us _ => ∃ (e w : Int) (j : Nat), us = [.i e, .i w, .i j] ∧ n + j = 1 ∧ (w = -1 ∨ w = l.length)) 1 ⟨e, -1, 0, rfl, rfl, .inl rfl⟩ ?_
  rintro n _ m _ ⟨e, w, j, rfl, hnj, hw⟩
  refine .env (by (try simp only [liE, lO, lU, snd, aN]); rfl) (.ite (fun h1 => ?_) (fun h1 => .ret rfl rfl)) <;> ((try simp only [evE, liE, lO, lU, snd] at h1); (try simp only [cmE] at h1))
  obtain rfl : j = 0 := by omega
  refine .elemO [.p q, .i (1 : Nat), .i cq] [slv q 1 cq] rfl rfl (fun g => hp.1.mono g.R) (by simp) (.env (by (try simp only [liE, lO, lU, snd, aN]); rfl) (.chk rfl ?_))
  refine .loop (fun n us _ => ∃ (e w : Int) (i : Nat), us = [.i e, .i w, .i i] ∧ n + i = 1 ∧ (w = -1 ∨ w = l.length)) 1 ⟨e, w, 0, rfl, rfl, hw⟩ ?_
  clear hw
  rintro n2 _ m2 _ ⟨e, w, i, rfl, hni, hw⟩
  refine .env (by (try simp only [liE, lO, lU, snd, aN]); rfl) (.ite (fun h2 => ?_) (fun h2 => .again rfl ⟨0, by omega, e, w, 1, ?_, by omega, hw⟩)) <;> ((try simp only [evE, liE, lO, lU, snd] at h2); (try simp only [cmE] at h2))
  · obtain rfl : i = 0 := by omega
    refine .elemO [.p pl, .i l.length, .i cl, .i 1] [slv pl l.length cl, .int .i64 1] rfl rfl (fun g => hp.2.one.mono g.R) (by simp) (.env (by (try simp only [liE, lO, lU, snd, aN]); rfl) (.alloc fun b1 => ?_))
    refine .ite (fun h3 => .chk (by ((try simp only [evE, liE, lO, lU, snd]); (try simp only [cmE])); omega) (.chk (by ((try simp only [evE, liE, lO, lU, snd]); (try simp only [cmE])); omega) (.no ?_ ?_))) (fun h3 => .chk (by ((try simp only [evE, liE, lO, lU, snd]); (try simp only [cmE])); omega) (.no ?_ ?_)) <;> ((try simp only [evE, liE, lO, lU, snd] at h3); (try simp only [cmE] at h3))
    · show (bif (bif cm .neq (l.length : Int) l.length then true else false) then true else false) = false
      rw [show cm .neq (l.length : Int) l.length = false by simp [cm]]; rfl
    · refine .callV (c_contC2 pl cl l (by omega) h) (fun g => hp.2.cells.mono g.R) (.env (by (try simp only [liE, lO, lU, snd, aN]); rfl) (.no rfl (.again rfl ⟨0, by omega, e, l.length, 1, ?_, rfl, .inr rfl⟩)))
      (simp only [evE, liE, lO, lU, snd, Sh.uss, Sh.us, atAddr, map_add0, List.append_nil]); rw [add_i64 0 (by omega)]
    · obtain rfl : w = l.length := by omega
      show (bif (bif cm .neq (l.length : Int) l.length then true else false) then true else false) = false
      rw [show cm .neq (l.length : Int) l.length = false by simp [cm]]; rfl
    · refine .callV (c_contC2 pl cl l (by omega) h) (fun g => hp.2.cells.mono g.R) (.env (by (try simp only [liE, lO, lU, snd, aN]); rfl) (.no rfl (.again rfl ⟨0, by omega, e, w, 1, ?_, rfl, hw⟩)))
      (simp only [evE, liE, lO, lU, snd, Sh.uss, Sh.us, atAddr, map_add0, List.append_nil]); rw [add_i64 0 (by omega)]
  · (simp only [evE, liE, lO, lU, snd, Sh.uss, Sh.us, atAddr, map_add0, List.append_nil]); rw [add_i64 0 (by omega)]
theorem c_corrAll (q0 : Option Addr) (c0 : Nat) : FnM Tryd.prog n_corr_all [slv q0 1 c0] (fun _ => True) fun v mq _ => ∃ b e, v = .func (.func n_corr_all_1) #[] #[.pointer (some ⟨b, 0, none⟩)] ∧ mq = boxS b e (slv q0 1 c0) :=
  FnM.of S_corr_all mx [.p q0, .i (1 : Nat), .i c0] rfl rfl fun c _ => .alloc fun b => .retL rfl fun g => ⟨b, _, rfl, rfl⟩
theorem it_corrAll (q0 q pl : Option Addr) (c0 cq cl n b : Nat) (e : TypeId) (S : Mv) (hS : Cells S q0 [slv q 1 cq] ∧ Cells S q [slv pl n cl, .int .i64 1]) : Iter Tryd.prog n_corr_all_1 #[.pointer (some ⟨b, 0, none⟩)] (fun w => S.le (Mv.of w)) (HW.mem (boxS b e (slv q0 1 c0))) [[.agg #[slv pl n cl, .int .i64 1]]] := by
  refine Iter.of S_corr_all_1 mx [.p (some ⟨b, 0, none⟩)] (fun yv => rfl) (fun yv h => by simp [Sh.eats, Sh.eat, eatV, eatP, h]) ?_
  intro yv J E hyv hy hpre h hw hJ hdj
  have hA : ∀ {hX : HW} (hw : ∃ w, hX.H w) (q : Nat), J q hX → ∀ w, hX.H w → S.le (Mv.of w) := fun hw q hq w h => hpre q _ w hq h
  have be : boxS b e (slv q0 1 c0) b = some (box e (slv q0 1 c0)) := Mem.upd_same ..
  generalize boxS b e (slv q0 1 c0) = m at *
  refine .loadS [slv q0 1 c0] 0 q0 1 c0 rfl rfl (fun g i x hx => ⟨b, 0, rfl, by rw [vw_mem g be, Nat.zero_add]; simpa [box] using hx⟩) (.env (by (try simp only [liE, lO, lU, snd, aN]); rfl) (.chk rfl ?_))
  refine .loopY (fun n us m' hT => ∃ a : Nat, n + a = 1 ∧ us = [.i (a : Int)] ∧ m = m' ∧ J a hT) 1 ⟨0, rfl, rfl, rfl, hJ⟩ ?_
  rintro k us m' hX _ ⟨a, hka, rfl, rfl, hq⟩ hwX
  refine .env (by (try simp only [liE, lO, lU, snd, aN]); rfl) (.ite (fun h1 => ?_) (fun h1 => .stop (.inl ?_))) <;> ((try simp only [evE, liE, lO, lU, snd] at h1); (try simp only [cmE] at h1))
  · obtain rfl : a = 0 := by omega
    refine .into hwX (hA hwX _ hq) (.elemO [.p q, .i (1 : Nat), .i cq] [slv q 1 cq] rfl rfl (fun g => hS.1.mono g.R) (by simp) (.env (by (try simp only [liE, lO, lU, snd, aN]); rfl) (.chk rfl ?_)))
    refine .loopY (fun n us m' hT => ∃ i : Nat, n + i = 1 ∧ us = [.i (i : Int)] ∧ m = m' ∧ J i hT) 1 ⟨0, rfl, rfl, rfl, hq⟩ ?_
    rintro k2 us m' hY _ ⟨i, hki, rfl, rfl, hq2⟩ hwY
    refine .env (by (try simp only [liE, lO, lU, snd, aN]); rfl) (.ite (fun h2 => ?_) (fun h2 => .againY rfl ⟨0, by omega, 1, rfl, ?_, rfl, ?_⟩)) <;> ((try simp only [evE, liE, lO, lU, snd] at h2); (try simp only [cmE] at h2))
    · obtain rfl : i = 0 := by omega
      refine .into hwY (hA hwY _ hq2) (.elemO [.p pl, .i n, .i cl, .i 1] [slv pl n cl, .int .i64 1] rfl rfl (fun g => hS.2.mono g.R) (by simp) (.env (by (try simp only [liE, lO, lU, snd, aN]); rfl) (.alloc fun b1 => ?_)))
      refine .yield hy (q := 0) (x := [.agg #[slv pl n cl, .int .i64 1]]) hq2 rfl (fun hX' hw' hJ' => .no rfl (.againY rfl ⟨0, by omega, 1, rfl, ?_, rfl, hJ'⟩)) (fun hX' hE => .yes rfl (.stop (.inr hE)))
      (simp only [evE, liE, lO, lU, snd, Sh.uss, Sh.us, atAddr, map_add0, List.append_nil]); rw [add_i64 0 (by omega)]
    · (simp only [evE, liE, lO, lU, snd, Sh.uss, Sh.us, atAddr, map_add0, List.append_nil]); rw [add_i64 0 (by omega)]
    · rw [show i = 1 by omega] at hq2; exact hq2
  · rw [show [[Value.agg #[slv pl n cl, .int .i64 1]]].length = a by simp; omega]; exact hq
theorem c_total1 (q pl : Option Addr) (cq cl : Nat) (l : List CE) (hl : l.length ≤ 64) (h : ∀ x ∈ l, okCE x) : RetP Tryd.prog n_corr_Total [slv q 1 cq] (fun R => CorrAt R q pl cl l) (.tuple #[.int .i64 1, .int .i64 0]) := by
  refine Fn.of S_corr_Total mx [.p q, .i (1 : Nat), .i cq] rfl rfl fun c hp => .alloc fun b0 => ?_
  refine .callV (c_corrCheck (some ⟨b0, 0, none⟩) q pl 1 cq cl l hl h) (fun g => ⟨g.cells (j := 0) rfl rfl rfl, hp.mono g.R⟩) (.env (by (try simp only [liE, lO, lU, snd, aN]); rfl) (.no rfl (.alloc fun b1 => .alloc' fun b2 _ _ hb2 => ?_)))
  refine .callM (c_corrAll (some ⟨b2, 0, none⟩) 1) rfl rfl (fun _ => trivial) ?_
  rintro v mb hfr ⟨bx, ex, rfl, rfl⟩
  refine ⟨[.v _], ⟨_, rfl, rfl⟩, rfl, .env (by (try simp only [liE, lO, lU, snd, aN]); rfl) ?_⟩
  have hle : c.R.le (c.R.on (Mem.emp.upd b2 (.cells #[slv q 1 cq] 98 (0, 0)))) := Mv.le_on (fun b o v hv hm => by
    by_cases e : b = b2
    · subst e; exact hb2 (c.own b o v hv)
    · rw [Mem.upd_other _ _ e] at hm; exact hm rfl) (fun b es hv hm => by
    by_cases e : b = b2
    · subst e; exact hb2 (c.ownm b es hv)
    · rw [Mem.upd_other _ _ e] at hm; exact hm rfl)
  refine .range n_corr_all_1 _ [[.p pl, .i l.length, .i cl, .i 1]] (fun w => (c.R.on (Mem.emp.upd b2 (.cells #[slv q 1 cq] 98 (0, 0)))).le (Mv.of w)) (boxS bx ex (slv (some ⟨b2, 0, none⟩) 1 1)) Mem.emp
    (fun k us mm => us = [.i k] ∧ mm = Mem.emp) (fun _ _ _ => False)
    rfl (by kernel_rfl) rfl (fun b hb => absurd rfl hb) ?_ ?_ ⟨rfl, rfl⟩ ?_ ?_ ?_ (fun _ _ _ _ _ hE => hE.elim)
  · intro ux hx
    rw [List.mem_singleton] at hx; subst hx; rfl
  · refine it_corrAll (some ⟨b2, 0, none⟩) q pl 1 cq cl l.length bx ex _ ⟨?_, hp.one.mono hle⟩
    intro i x hx
    refine ⟨b2, 0, rfl, ?_⟩
    rw [Mv.on_c, Mem.upd_same, Nat.zero_add]
    simpa using hx
  · rintro k us m' w ⟨rfl, rfl⟩ hw
    refine Mv.on_le ⟨fun b o v hv => c.ok w b o v hw.hold.1 hv, fun b es hv => c.okm w b es hw.hold.1 hv⟩ fun b o hb => ?_
    by_cases e : b = b2
    · subst e
      rw [Mem.upd_same] at hb
      cases hb
      exact hw.blk 2 _ rfl
    · rw [Mem.upd_other _ _ e] at hb; cases hb
  · rintro k us ux m' _ hx ⟨rfl, rfl⟩
    have hk : k = 0 := by
      have := (List.getElem?_eq_some_iff.1 hx).1
      simp at this; omega
    subst hk
    cases hx
    refine .env (by (try simp only [liE, lO, lU, snd, aN]); rfl) (.alloc fun b3 => .leave (.inl ⟨rfl, ?_, rfl⟩))
    (simp only [evE, liE, lO, lU, snd, Sh.uss, Sh.us, atAddr, map_add0, List.append_nil]); rw [add_i64 0 (by omega)]
  · rintro us m' _ ⟨rfl, rfl⟩
    exact .env (by (try simp only [liE, lO, lU, snd, aN]); rfl) (.ret rfl rfl)
theorem c_pvalid (pl : Option Addr) (cl : Nat) (l : List CE) (hl : l.length ≤ 64) (h : ∀ x ∈ l, okCE x) : RetP Tryd.prog n_proto_valid [slv pl l.length cl] (fun R => Cells R pl (ccells l)) (.bool true) :=
  Fn.of S_proto_valid mx [.p pl, .i l.length, .i cl] rfl rfl fun c hp => .alloc fun b0 => .callV (c_total1 (some ⟨b0, 0, none⟩) pl 1 cl l hl h) (fun g => ⟨g.cells (j := 0) rfl rfl rfl, hp.mono g.R⟩) (.env (by (try simp only [liE, lO, lU, snd, aN]); rfl) (.ret rfl rfl))
end Go.Proofs.YtkhcfbdjmpodbaaDoor
