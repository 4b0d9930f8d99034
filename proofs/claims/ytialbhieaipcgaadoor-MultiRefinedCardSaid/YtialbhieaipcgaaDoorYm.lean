/- Chapter 18: Add. -/
import Derived.Test.YtialbhieaipcgaaDoorYl
set_option linter.unusedSimpArgs false
set_option linter.unusedVariables false
namespace Go.Sy
open Go Go.RowKit
def addErr (ws : List Int) (gap : Int) (W : List (List Snd)) (cols : List (List Int)) (w : List Snd) : Int := Go.Proofs.YtialbhieaipcgaaDoor.firstE [checkC ws gap, wordsE 7 W, checkW w, checkA W cols]
def addA (ws : List Int) (gap : Int) (W : List (List Snd)) (cols : List (List Int)) (w : List Snd) : List (List Int) × Int :=
  if addErr ws gap W cols w ≠ 0 then ([], addErr ws gap W cols w) else (insE (columnE ws gap (W ++ [w])) cols W.length W.length w.length, 0)
theorem addErr_zero {ws : List Int} {gap : Int} {W : List (List Snd)} {cols : List (List Int)} {w : List Snd} (h : addErr ws gap W cols w = 0) : checkC ws gap = 0 ∧ W.length ≤ 7 ∧ checkL W = 0 ∧ checkW w = 0 ∧ isAl W cols = true := by
  unfold addErr at h
  have e : Go.Proofs.YtialbhieaipcgaaDoor.firstE [checkC ws gap, wordsE 7 W, checkW w, checkA W cols] = if checkC ws gap ≠ 0 then checkC ws gap else if wordsE 7 W ≠ 0 then wordsE 7 W else if checkW w ≠ 0 then checkW w else if checkA W cols ≠ 0 then checkA W cols else 0 := rfl
  rw [e] at h
  by_cases h1 : checkC ws gap ≠ 0
  · rw [if_pos h1] at h; exact absurd h h1
  rw [if_neg h1] at h
  by_cases h2 : wordsE 7 W ≠ 0
  · rw [if_pos h2] at h; exact absurd h h2
  rw [if_neg h2] at h
  by_cases h3 : checkW w ≠ 0
  · rw [if_pos h3] at h; exact absurd h h3
  rw [if_neg h3] at h
  by_cases h4 : checkA W cols ≠ 0
  · rw [if_pos h4] at h; exact absurd h h4
  have h5 := wordsE_zero (Decidable.not_not.1 h2)
  exact ⟨Decidable.not_not.1 h1, by omega, h5.2, Decidable.not_not.1 h3, (checkA_zero (Decidable.not_not.1 h4)).2.2⟩
section
variable {ws : List Int} {gap : Int} {W : List (List Snd)} {cols : List (List Int)} {w : List Snd}
theorem wl_snoc {i : Nat} (hi : i < W.length) : wl (W ++ [w]) i = wl W i := by
  unfold wl; rw [List.getElem?_append_left hi]
theorem wl_last : wl (W ++ [w]) W.length = (w.length : Nat) := by
  unfold wl; rw [List.getElem?_append_right (Nat.le_refl _), Nat.sub_self]; rfl
theorem add_ent (hal : isAl W cols = true) : ∀ x ∈ cols, x.length = W.length ∧ EntAt (W ++ [w]) W.length x := fun x hx => by
  obtain ⟨h1, h2⟩ := isAl_ent hal x hx
  refine ⟨h1, fun i hi => ?_⟩
  rw [if_pos (by omega), wl_snoc (by omega)]
  exact h2 i hi
theorem add_open (hal : isAl W cols = true) {v i j : Nat} (h : openI cols.length w.length i j v) : (lookS cols W.length W.length i j v).length = W.length + 1 ∧ EntOk (W ++ [w]) (lookS cols W.length W.length i j v) :=
  ⟨lookS_len' (Nat.le_refl _) (fun x hx => (add_ent (w := w) hal x hx).1) (open_lt h).1, lookS_ent (Nat.le_refl _) (add_ent hal) wl_last h⟩
theorem add_nn (hc : checkC ws gap = 0) (h7 : W.length ≤ 7) (hal : isAl W cols = true) : ∀ v i j, 0 ≤ cI (columnE ws gap (W ++ [w])) cols W.length W.length v i j :=
  cI_nonneg hc _ (by omega) (fun x hx => (add_ent (w := w) hal x hx).1) _
theorem add_al (hc : checkC ws gap = 0) (h7 : W.length ≤ 7) (hal : isAl W cols = true) : isAl (W ++ [w]) (insE (columnE ws gap (W ++ [w])) cols W.length W.length w.length) = true := by
  have he : (W ++ [w]).eraseIdx W.length = W := by
    rw [List.eraseIdx_append_of_length_le (Nat.le_refl _), Nat.sub_self]
    show W ++ [] = W
    rw [List.append_nil]
  have hg : (W ++ [w]).getD W.length [] = w := by rw [List.getD_eq_getElem?_getD, List.getElem?_append_right (Nat.le_refl _), Nat.sub_self]; rfl
  have := insE_al (W := W ++ [w]) (cost := columnE ws gap (W ++ [w])) (cols := cols) (n := W.length) (p := W.length) (by simp) (Nat.le_refl _) (add_nn hc h7 hal) (by rw [he]; exact hal)
  rw [hg] at this
  exact this
end
end Go.Sy
namespace Go.Proofs.YtialbhieaipcgaaDoor
open Go Go.Sy Go.RowKit
theorem elW : El Tryd.prog 22 46 1 24 := El.of (by kernel_rfl)
theorem wv_one (l : List WD) : ∀ u ∈ l.map WD.v, u.oneCell' = true := fun u hu => by
  obtain ⟨x, _, rfl⟩ := List.mem_map.1 hu
  simp [WD.v, slv, Value.oneCell']
theorem c_cloneW (q : Option Addr) (cq : Nat) (l : List WD) (hle : l.length ≤ cq) (hnil : q = none → cq = 0) (hl : l.length < 2 ^ 40) : FnM Tryd.prog n_slices_Clone_____api_Sound___api_Sound_ [slv q l.length cq] (fun R => Cells R q (l.map WD.v)) fun v mq _ => ∃ q' cq', v = slv q' l.length cq' ∧ (l.length ≠ 0 → Row mq 46 1 q' cq' l.length (l.map WD.v)) ∧ (l.length = 0 → (q' = none ∧ cq' = 0) ∨ ∃ b, q' = some ⟨b, 0, none⟩ ∧ cq' = 0) := by
  refine FnM.of S_slices_Clone_____api_Sound___api_Sound_ mx [.p q, .i l.length, .i cq] rfl rfl fun c hp => .isNil q l.length cq (e := 46) (by kernel_rfl) (.env (by (try simp only [liE, letsOf, letU, snd, List.append_nil]); rfl) (.ite (fun h1 => .ret rfl ?_) (fun h1 => .alloc fun b0 => ?_)))
  · replace h1 : q.isNone = true := h1
    have h2 := hnil (by simpa using h1)
    have : l = [] := List.length_eq_zero_iff.1 (by omega)
    rw [this]
    exact ⟨none, 0, rfl, fun h => absurd rfl h, fun _ => .inl ⟨rfl, rfl⟩⟩
  · refine .appendLit (b0 := b0) (qx := q) (kx := l.length) (capx := cq) (news := l.map WD.v) elW (fun g => hp.mono g.R) (by rw [List.length_map, Nat.mul_one]) (wv_one l) hnil (by simp [maxLen]; omega) (by omega) (fun q1 k1 m1 hr1 h01 _ => .env (by (try simp only [liE, letsOf, letU, snd, List.append_nil]); rfl) (.ret rfl ⟨q1, k1, rfl, hr1, fun h => .inr ⟨b0, h01 h⟩⟩))
/-- A word appended to a copy of words. -/
theorem _root_.Go.Sy.DenM.appendW {c : Cx} {L : List Nat} {ρ : Env} {blks : List Blk} {m : Mem} {R : Value → HW → Prop} {Dn : Nat → List U → HW → Prop} {A : List (List U → HW → Prop)} {aO : Array Operand} {ty : TypeId} {sv xv : SV} {k : Tree} {q qx : Option Addr} {cap : Nat} (l : List WD) (x : WD) (hl : l.length < 2 ^ 30)
    (h1 : l.length ≠ 0 → Row m 46 1 q cap l.length (l.map WD.v)) (h0 : l.length = 0 → (q = none ∧ cap = 0) ∨ ∃ b, q = some ⟨b, 0, none⟩ ∧ cap = 0) (hx : Good c L m → Cells (vw c L ρ blks m) qx [x.v]) (hqx : qx ≠ none)
    (hk : ∀ q' cap' m', Row m' 46 1 q' cap' (l.length + 1) ((l ++ [x]).map WD.v) → DenM Tryd.prog R Dn k L (ρ ++ [.p q', .i (l.length + 1 : Nat), .i (cap' : Nat)]) c m' A)
    (hv : sv.den L ρ = slv q l.length cap := by rfl) (hxv : xv.den L ρ = slv qx 1 1 := by rfl) (hs : scBlks ρ.length blks = true := by rfl) :
    DenM Tryd.prog R Dn (.ext false ⟨.call ⟨.builtin .append, aO, #[22, 22]⟩, ty, [sv, xv]⟩ .sl blks k) L ρ c m A := by
  have hone : ∀ u ∈ [x.v], u.oneCell' = true := by simp [WD.v, slv, Value.oneCell']
  have hmap : (l ++ [x]).map WD.v = l.map WD.v ++ [x.v] := by rw [List.map_append]; rfl
  rw [hmap] at hk
  by_cases hn : l.length = 0
  · have hle : l.map WD.v = [] := by rw [List.length_eq_zero_iff.1 hn]; rfl
    rcases h0 hn with ⟨rfl, rfl⟩ | ⟨b, rfl, rfl⟩
    · exact .append (n := l.length) (kx := 1) (xs := l.map WD.v) elW (by rw [hle, hn]; exact Row.nil ..) hx rfl hone (fun h => absurd h hqx) (by simp [maxLen]; omega) (by omega) (fun q' cap' m' a1 _ _ => hk q' cap' m' a1) hv hxv hs
    · exact .appendE (b0 := b) (n := l.length) (kx := 1) elW h1 (fun _ => ⟨rfl, rfl, hle⟩) (by decide) hx rfl hone (fun h => absurd h hqx) (by simp [maxLen]; omega) (by omega) (fun q' cap' m' a1 _ => hk q' cap' m' a1) hv hxv hs
  · exact .append (n := l.length) (kx := 1) elW (h1 hn) hx rfl hone (fun h => absurd h hqx) (by simp [maxLen]; omega) (by omega) (fun q' cap' m' a1 _ _ => hk q' cap' m' a1) hv hxv hs
theorem c_add1 (b2 : Nat) (pc : Option Addr) (cc : Nat) (ws : List Int) (gap : Int) : FnM Tryd.prog n_multi_Add_1 [.pointer (some ⟨b2, 0, none⟩)] (fun R => Cells R (some ⟨b2, 0, none⟩) [slv pc ws.length cc, .int .i64 gap] ∧ CostsAt R pc ws) fun v _ _ => v = .int .i64 (checkC ws gap) :=
  FnM.of S_multi_Add_1 mx [.p (some ⟨b2, 0, none⟩)] rfl rfl fun c hp => .loadCost [slv pc ws.length cc, .int .i64 gap] 0 pc ws.length cc gap rfl rfl rfl (fun g => hp.1.mono g.R) (.env (by (try simp only [liE, letsOf, letU, snd, List.append_nil]); rfl) (.callV (c_checkCosts pc cc ws gap) (fun g => hp.2.mono g.R) (.ret rfl rfl)))
theorem c_add2 (b0 : Nat) (p : Option Addr) (cp : Nat) (l : List WD) (hl : l.length < 2 ^ 62) (hok : ∀ x ∈ l, Wok x.w) : FnM Tryd.prog n_multi_Add_2 [.pointer (some ⟨b0, 0, none⟩)] (fun R => Cells R (some ⟨b0, 0, none⟩) [slv p l.length cp] ∧ WordsAt R p l) fun v _ _ => v = .int .i64 (wordsE 7 (l.map (·.w))) :=
  FnM.of S_multi_Add_2 mx [.p (some ⟨b0, 0, none⟩)] rfl rfl fun c hp => .loadS [slv p l.length cp] 0 p l.length cp rfl rfl (fun g => hp.1.mono g.R) (.env (by (try simp only [liE, letsOf, letU, snd, List.append_nil]); rfl) (.callV (c_words p cp l 7 (by omega) hok) (fun g => hp.2.mono g.R) (.ret rfl rfl)))
theorem c_add3 (b0 : Nat) (x : WD) (hx : Wok x.w) : FnM Tryd.prog n_multi_Add_3 [.pointer (some ⟨b0, 0, none⟩)] (fun R => Cells R (some ⟨b0, 0, none⟩) [x.v] ∧ WordAt R x.p x.w) fun v _ _ => v = .int .i64 (checkW x.w) :=
  FnM.of S_multi_Add_3 mx [.p (some ⟨b0, 0, none⟩)] rfl rfl fun c hp => .loadS [x.v] 0 x.p x.w.length x.cap rfl rfl (fun g => hp.1.mono g.R) (.env (by (try simp only [liE, letsOf, letU, snd, List.append_nil]); rfl) (.callV (c_wordCheck x.p x.cap x.w hx) (fun g => hp.2.mono g.R) (.ret rfl rfl)))
theorem c_add4 (b0 b1 : Nat) (p pc : Option Addr) (cp cc : Nat) (l : List WD) (rs : List IR) (hl : l.length < 2 ^ 62) (hr : rs.length < 2 ^ 62) (hok : ∀ x ∈ l, Wok x.w) (hrl : ∀ r ∈ rs, r.l.length < 2 ^ 62) : FnM Tryd.prog n_multi_Add_4 [.pointer (some ⟨b0, 0, none⟩), .pointer (some ⟨b1, 0, none⟩)] (fun R => Cells R (some ⟨b0, 0, none⟩) [slv p l.length cp] ∧ Cells R (some ⟨b1, 0, none⟩) [slv pc rs.length cc] ∧ WordsAt R p l ∧ RowsAt R pc rs) fun v _ _ => v = .int .i64 (checkA (l.map (·.w)) (rs.map (·.l))) :=
  FnM.of S_multi_Add_4 mx [.p (some ⟨b0, 0, none⟩), .p (some ⟨b1, 0, none⟩)] rfl rfl fun c hp => .loadS [slv p l.length cp] 0 p l.length cp rfl rfl (fun g => hp.1.mono g.R) (.env (by (try simp only [liE, letsOf, letU, snd, List.append_nil]); rfl) (.loadS [slv pc rs.length cc] 0 pc rs.length cc rfl rfl (fun g => hp.2.1.mono g.R) (.env (by (try simp only [liE, letsOf, letU, snd, List.append_nil]); rfl) (.callV (c_Check p pc cp cc l rs hl hr hok hrl) (fun g => ⟨hp.2.2.1.mono g.R, hp.2.2.2.mono g.R⟩) (.ret rfl rfl)))))
theorem words_snoc {R : Mv} {q : Option Addr} {l : List WD} {x : WD} {p : Option Addr} (h : Cells R q ((l ++ [x]).map WD.v)) (hl : WordsAt R p l) (hx : WordAt R x.p x.w) : WordsAt R q (l ++ [x]) := ⟨h, fun y hy => by
  rcases List.mem_append.1 hy with hy | hy
  · exact hl.2 y hy
  · rw [List.mem_singleton] at hy; subst hy; exact hx⟩
set_option maxHeartbeats 1000000 in
theorem c_Add (p pcol pc : Option Addr) (cp ccol cc : Nat) (l : List WD) (x : WD) (rs : List IR) (ws : List Int) (gap : Int) (hl : l.length < 2 ^ 40) (hlc : l.length ≤ cp) (hpn : p = none → cp = 0) (hok : ∀ y ∈ l, Wok y.w) (hx : Wok x.w) (hr : rs.length < 2 ^ 40) (hrok : ∀ r ∈ rs, r.ok) :
    FnM Tryd.prog n_multi_Add [slv p l.length cp, slv pcol rs.length ccol, x.v, costs pc ws.length cc gap] (fun R => WordsAt R p l ∧ RowsAt R pcol rs ∧ WordAt R x.p x.w ∧ CostsAt R pc ws ∧ VarsOk R) fun v mq _ => ∃ q cq rs', v = .tuple #[slv q rs'.length cq, .int .i64 (addA ws gap (l.map (·.w)) (rs.map (·.l)) x.w).2] ∧ rs'.map (·.l) = (addA ws gap (l.map (·.w)) (rs.map (·.l)) x.w).1 ∧ TabI mq q cq rs' := by
  have hclen : (rs.map (·.l)).length = rs.length := List.length_map _
  have hwlen : (l.map (·.w)).length = l.length := List.length_map _
  have hrl : ∀ r ∈ rs, r.l.length < 2 ^ 62 := fun r hr => by have := (hrok r hr).small; omega
  refine FnM.of S_multi_Add mx [.p p, .i l.length, .i cp, .p pcol, .i rs.length, .i ccol, .p x.p, .i x.w.length, .i x.cap, .p pc, .i ws.length, .i cc, .i gap] rfl rfl fun c hp => .alloc fun b0 => .alloc fun b1 => .alloc fun b2 => .alloc fun b3 => .alloc fun b4 => ?_
  refine .envL (by simp only [List.nil_append, List.cons_append]; rfl) ?_
  have hV := hp.2.2.2.2
  have kf := c_first (fun R => Cells R (some ⟨b3, 0, none⟩) [slv pc ws.length cc, .int .i64 gap] ∧ Cells R (some ⟨b0, 0, none⟩) [slv p l.length cp] ∧ Cells R (some ⟨b2, 0, none⟩) [x.v] ∧ Cells R (some ⟨b1, 0, none⟩) [slv pcol rs.length ccol] ∧ WordsAt R p l ∧ RowsAt R pcol rs ∧ WordAt R x.p x.w ∧ CostsAt R pc ws)
    (fun h hle => ⟨h.1.mono hle, h.2.1.mono hle, h.2.2.1.mono hle, h.2.2.2.1.mono hle, h.2.2.2.2.1.mono hle, h.2.2.2.2.2.1.mono hle, h.2.2.2.2.2.2.1.mono hle, h.2.2.2.2.2.2.2.mono hle⟩)
    [(.func (.func n_multi_Add_1) #[] #[.pointer (some ⟨b3, 0, none⟩)], checkC ws gap), (.func (.func n_multi_Add_2) #[] #[.pointer (some ⟨b0, 0, none⟩)], wordsE 7 (l.map (·.w))), (.func (.func n_multi_Add_3) #[] #[.pointer (some ⟨b2, 0, none⟩)], checkW x.w), (.func (.func n_multi_Add_4) #[] #[.pointer (some ⟨b0, 0, none⟩), .pointer (some ⟨b1, 0, none⟩)], checkA (l.map (·.w)) (rs.map (·.l)))] (some ⟨b4, 0, none⟩) 4 (show 4 < 2 ^ 62 by decide)
    (by simp [Value.oneCell'])
    (by
      intro f hf
      simp only [List.mem_cons, List.not_mem_nil, or_false] at hf
      rcases hf with rfl | rfl | rfl | rfl
      · exact .weak (.of (args := []) (cap := [.pointer (some ⟨b3, 0, none⟩)]) (by kernel_rfl) (c_add1 b3 pc cc ws gap)) fun R h => ⟨h.1, h.2.2.2.2.2.2.2⟩
      · exact .weak (.of (args := []) (cap := [.pointer (some ⟨b0, 0, none⟩)]) (by kernel_rfl) (c_add2 b0 p cp l (by omega) hok)) fun R h => ⟨h.2.1, h.2.2.2.2.1⟩
      · exact .weak (.of (args := []) (cap := [.pointer (some ⟨b2, 0, none⟩)]) (by kernel_rfl) (c_add3 b2 x hx)) fun R h => ⟨h.2.2.1, h.2.2.2.2.2.2.1⟩
      · exact .weak (.of (args := []) (cap := [.pointer (some ⟨b0, 0, none⟩), .pointer (some ⟨b1, 0, none⟩)]) (by kernel_rfl) (c_add4 b0 b1 p pcol cp ccol l rs (by omega) (by omega) hok hrl)) fun R h => ⟨h.2.1, h.2.2.2.1, h.2.2.2.2.1, h.2.2.2.2.2.1⟩)
  have hE : addErr ws gap (l.map (·.w)) (rs.map (·.l)) x.w = firstE [checkC ws gap, wordsE 7 (l.map (·.w)), checkW x.w, checkA (l.map (·.w)) (rs.map (·.l))] := rfl
  replace kf : RetP Tryd.prog n_multi_first [slv (some ⟨b4, 0, none⟩) 4 4] _ (.int .i64 (addErr ws gap (l.map (·.w)) (rs.map (·.l)) x.w)) := kf
  have hA : addA ws gap (l.map (·.w)) (rs.map (·.l)) x.w = if addErr ws gap (l.map (·.w)) (rs.map (·.l)) x.w ≠ 0 then ([], addErr ws gap (l.map (·.w)) (rs.map (·.l)) x.w) else (insE (columnE ws gap (l.map (·.w) ++ [x.w])) (rs.map (·.l)) l.length l.length x.w.length, 0) := by unfold addA; rw [hwlen]
  have hz := addErr_zero (ws := ws) (gap := gap) (W := l.map (·.w)) (cols := rs.map (·.l)) (w := x.w)
  rw [hA]
  generalize addErr ws gap (l.map (·.w)) (rs.map (·.l)) x.w = e at kf hz ⊢
  refine .callV kf (fun g => ⟨g.cells (j := 4) rfl rfl rfl, g.cells (j := 3) rfl rfl rfl, g.cells (j := 0) rfl rfl rfl, g.cells (j := 2) rfl rfl rfl, g.cells (j := 1) rfl rfl rfl, hp.1.mono g.R, hp.2.1.mono g.R, hp.2.2.1.mono g.R, hp.2.2.2.1.mono g.R⟩) (.env (by (try simp only [liE, letsOf, letU, snd, List.append_nil]); rfl) (.ite (fun h1 => .ret rfl ?_) (fun h1 => ?_))) <;> ((try simp only [evE, liE, letsOf, letU, snd] at h1); (try simp only [cmE] at h1))
  · rw [if_pos h1]; exact ⟨none, 0, [], rfl, rfl, .empty _⟩
  rw [if_neg (by simp [h1])]
  clear kf hA hE
  obtain ⟨hc, h7, hL, hwx, hal⟩ := hz h1
  rw [hwlen] at h7
  have hal' := add_al (w := x.w) hc (by omega) hal
  have hcl := al_len hal (by omega) (wl_32 hL)
  rw [hclen] at hcl
  have hx32 := (checkW_zero hwx).1
  refine .callE (c_cloneW p cp l hlc hpn hl) (fun g => hp.1.1.mono g.R) ?_
  rintro v mq m1 hle1 hq1 ⟨q1, k1, rfl, hR1, hR0⟩
  refine ⟨[.p q1, .i (l.length : Nat), .i (k1 : Nat)], uOk_of rfl, (slv_fresh _ _ _ _ _).symm, .env (by (try simp only [liE, letsOf, letU, snd, List.append_nil]); rfl) ?_⟩
  refine .alloc fun b5 => .envL (by simp only [List.nil_append, List.cons_append]; rfl) (.appendW (qx := some ⟨b5, 0, none⟩) l x (by omega) (fun h => Row.le (hR1 h) hq1) hR0 (fun g => g.cells (j := 5) rfl rfl rfl) nofun fun q2 k2 m2 hR2 => .env (by (try simp only [liE, letsOf, letU, snd, List.append_nil]); rfl) (.chk (by ((try simp only [evE, liE, letsOf, letU, snd]); (try simp only [cmE])); omega) ?_))
  clear hle1 hq1 hR1 hR0
  refine .callE (c_pricer q2 pc k2 cc (l ++ [x]) ws gap) (fun _ => trivial) ?_ (by rw [List.length_append]; rfl)
  rintro v mq3 m3 hle3 hq3 ⟨d1, d0, rfl, hc1, hc0⟩
  have hok' : ∀ y ∈ l ++ [x], Wok y.w := fun y hy => by
    rcases List.mem_append.1 hy with hy | hy
    · exact hok y hy
    · rw [List.mem_singleton] at hy; subst hy; exact hx
  have hpv := PrV.of (b1 := d1) (b0 := d0) (pc := pc) (cc := cc) (ws := ws) (gap := gap) (p := q2) (cp := k2) (l := l ++ [x]) (by simp; omega) hok' hc
  have hq1 := hc1.mono hq3.mv
  have hq0 := hc0.mono hq3.mv
  have hR3 := Row.le hR2 hle3
  refine ⟨[.v (.func (.func n_multi_pricer_1) #[] #[.pointer (some ⟨d1, 0, none⟩), .pointer (some ⟨d0, 0, none⟩)])], uOk_of rfl, rfl, .env (by (try simp only [liE, letsOf, letU, snd, List.append_nil]); rfl) ?_⟩
  have hmapw : (l ++ [x]).map (·.w) = l.map (·.w) ++ [x.w] := by rw [List.map_append]; rfl
  have key := c_insert q2 pcol k2 ccol (l ++ [x]) rs l.length l.length x.w.length rs.length _ _ _ _ hpv (by simp) rfl (by omega) (Nat.le_refl _) (by rw [List.getElem_append_right (Nat.le_refl _)]; simp) (by omega)
    (fun r hr => ⟨hrok r hr, by have := (isAl_ent hal r.l (List.mem_map_of_mem hr)).1; omega⟩)
    (fun hne => by
      obtain ⟨r, hr⟩ := List.exists_mem_of_ne_nil _ hne
      have h1 := (isAl_of hal).1 r.l (List.mem_map_of_mem hr)
      obtain ⟨y, hy, _⟩ := h1.2
      have := List.length_pos_of_mem hy
      rw [h1.1, hwlen] at this
      omega)
    (by rw [hmapw, ← hwlen]; exact add_nn hc (by omega) hal)
    (fun v i j ho => by
      have := add_open (w := x.w) hal (v := v) (i := i) (j := j) (by rw [hclen]; exact ho)
      rw [hwlen] at this
      rw [hmapw]
      exact ⟨by rw [List.length_append]; simp; omega, this.2⟩)
  rw [hmapw] at key
  have hwat : ∀ {L : List Nat} {ρ : Env} {blks : List Blk}, Go.Sy.Good c L m3 → WordsAt (vw c L ρ blks m3) q2 (l ++ [x]) := fun g => words_snoc (hR3.reads g) (hp.1.mono g.R) (hp.2.2.1.mono g.R)
  refine .callE key (fun g => ⟨⟨hq1.mono g.mv, hq0.mono g.mv, hwat g, hp.2.2.2.1.mono g.R, hV.1.mono g.R⟩, hwat g, hp.2.1.mono g.R, hV.2.mono g.R⟩) ?_ (by rw [List.length_append]; rfl)
  rintro v mq4 m4 hle4 hq4 ⟨q4, k4, ag, rfl, hag, hT⟩
  refine ⟨[.p q4, .i (ag.length : Nat), .i (k4 : Nat)], uOk_of rfl, (slv_fresh _ _ _ _ _).symm, .env (by (try simp only [liE, letsOf, letU, snd, List.append_nil]); rfl) (.ret rfl ⟨q4, k4, ag, rfl, hag, hT.le' hq4⟩)⟩
end Go.Proofs.YtialbhieaipcgaaDoor
