/- Chapter 30: the new word with most models: the plain law; MinFunc; Extend. -/
import Derived.Test.YtpbbnmjkbfbelaaDoorJm
set_option linter.unusedSimpArgs false
set_option linter.unusedVariables false
namespace Go.Sy
open Go Go.RowKit
theorem ordW_self (w : List Snd) : ordW w w = 0 := by
  induction w with
  | nil => rfl
  | cons s w ih => rw [ordW, if_neg (by simp [ordS_zero]), ih]
/-- w is better than b. -/
def better (N : List Snd → Nat) (w b : List Snd) : Prop := N w > N b ∨ (N w = N b ∧ ordW w b < 0)
instance (N : List Snd → Nat) (w b : List Snd) : Decidable (better N w b) := by unfold better; exact inferInstance
theorem better_irr {N : List Snd → Nat} (w : List Snd) : ¬ better N w w := by
  unfold better
  rw [ordW_self]; omega
def cmpE (N : List Snd → Nat) (a b : List Snd) : Int := if (N b : Int) - (N a : Int) ≠ 0 then (N b : Int) - (N a : Int) else ordW a b
theorem cmpE_neg {N : List Snd → Nat} {a b : List Snd} : cmpE N a b < 0 ↔ better N a b := by
  unfold cmpE better
  split
  · constructor
    · intro h; exact .inl (by omega)
    · rintro (h | ⟨h, _⟩) <;> omega
  · constructor
    · intro h; exact .inr ⟨by omega, h⟩
    · rintro (h | ⟨_, h⟩)
      · omega
      · exact h
def pstep (N : List Snd → Nat) : Option (List Snd) → List Snd → Option (List Snd)
  | none, w => some w
  | some b, w => if better N w b then some w else some b
def pst (N : List Snd → Nat) : Option (List Snd) → List Snd × Nat
  | none => ([], 0)
  | some b => (b, N b)
theorem stepE_pst {N : List Snd → Nat} {o : Option (List Snd)} {w : List Snd} (hl : w.length ≤ 32) (hN : 1 ≤ N w) : stepE N (pst N o) (some w) = pst N (pstep N o w) := by
  have e : stepE N (pst N o) (some w) = if N w > (pst N o).2 ∨ (N w = (pst N o).2 ∧ ordW w (pst N o).1 < 0) then (w, N w) else pst N o := if_neg (by omega)
  rw [e]
  cases o with
  | none => rw [if_pos (.inl (by show N w > 0; omega))]; rfl
  | some b =>
    show (if better N w b then (w, N w) else (b, N b)) = pst N (if better N w b then some w else some b)
    split <;> rfl
theorem pstep_twice {N : List Snd → Nat} (o : Option (List Snd)) (w : List Snd) : pstep N (pstep N o w) w = pstep N o w := by
  cases o with
  | none => exact if_neg (better_irr w)
  | some b =>
    by_cases h : better N w b
    · rw [show pstep N (some b) w = some w from if_pos h]; exact if_neg (better_irr w)
    · rw [show pstep N (some b) w = some b from if_neg h]; exact if_neg h
def short (w : List Snd) : Bool := decide (w.length ≤ 32)
def fndM (c : List Snd) (m : MD) : List (List Snd) := (resW m.a.w m.b.w c).filter short
def fnd (ks : List MD) (c : List Snd) : List (List Snd) := ks.flatMap (fndM c)
theorem stepE_none {N : List Snd → Nat} (s : List Snd × Nat) : stepE N s none = s := rfl
theorem stepE_long {N : List Snd → Nat} (s : List Snd × Nat) {w : List Snd} (h : w.length > 32) : stepE N s (some w) = s := if_pos h
theorem opts_fnd {N : List Snd → Nat} {c : List Snd} {m : MD} (hN : ∀ w ∈ fndM c m, 1 ≤ N w) (o : Option (List Snd)) : (optsM c m).foldl (stepE N) (pst N o) = pst N ((fndM c m).foldl (pstep N) o) := by
  have one : ∀ (o : Option (List Snd)) (w : List Snd), (w.length ≤ 32 → 1 ≤ N w) → stepE N (pst N o) (some w) = pst N (([w].filter short).foldl (pstep N) o) := fun o w hw => by
    by_cases h : w.length ≤ 32
    · rw [stepE_pst h (hw h)]; simp [short, h]
    · rw [stepE_long _ (by omega)]; simp [short, h]
  have hNw : ∀ w, w ∈ resW m.a.w m.b.w c → w.length ≤ 32 → 1 ≤ N w := fun w hw hl => hN w (List.mem_filter.2 ⟨hw, by simp [short, hl]⟩)
  unfold optsM fndM
  simp only [List.foldl_cons, List.foldl_nil]
  cases hs : solveW m.a.w m.b.w c with
  | none =>
    rw [stepE_none]
    cases hf : frontW m.a.w m.b.w c with
    | none => rw [stepE_none, show resW m.a.w m.b.w c = [] by unfold resW; rw [hs, hf]]; rfl
    | some y =>
      have hr : resW m.a.w m.b.w c = [y] := by unfold resW; rw [hs, hf]
      rw [one o y fun hl => hNw y (by rw [hr]; simp) hl, hr]
  | some x =>
    cases hf : frontW m.a.w m.b.w c with
    | none =>
      have hr : resW m.a.w m.b.w c = [x] := by unfold resW; rw [hs, hf]
      rw [stepE_none, one o x fun hl => hNw x (by rw [hr]; simp) hl, hr]
    | some y =>
      by_cases he : x = y
      · subst he
        have hr : resW m.a.w m.b.w c = [x] := by unfold resW; rw [hs, hf]; simp
        rw [one o x fun hl => hNw x (by rw [hr]; simp) hl, one _ x fun hl => hNw x (by rw [hr]; simp) hl, hr]
        by_cases h : x.length ≤ 32
        · simp only [List.filter_cons, short, h, decide_true, if_true, List.filter_nil, List.foldl_cons, List.foldl_nil, pstep_twice]
        · simp [short, h]
      · have hr : resW m.a.w m.b.w c = [x, y] := by unfold resW; rw [hs, hf]; simp [he]
        rw [one o x fun hl => hNw x (by rw [hr]; simp) hl, one _ y fun hl => hNw y (by rw [hr]; simp) hl, hr, ← List.foldl_append, ← List.filter_append]; rfl
theorem best_fnd {ms ks : List MD} {c : List Snd} (hN : ∀ w ∈ fnd ks c, 1 ≤ votes ms c w) : bestE ms ks c = pst (votes ms c) ((fnd ks c).foldl (pstep (votes ms c)) none) := by
  have key : ∀ (ks : List MD) (o : Option (List Snd)), (∀ w ∈ fnd ks c, 1 ≤ votes ms c w) → (ks.flatMap (optsM c)).foldl (stepE (votes ms c)) (pst (votes ms c) o) = pst (votes ms c) ((fnd ks c).foldl (pstep (votes ms c)) o) := fun ks => by
    induction ks with
    | nil => intro o _; rfl
    | cons k ks ih =>
      intro o h
      have e : fnd (k :: ks) c = fndM c k ++ fnd ks c := by simp [fnd]
      rw [e] at h ⊢
      rw [List.flatMap_cons, List.foldl_append, List.foldl_append, opts_fnd fun w hw => h w (List.mem_append_left _ hw), ih _ fun w hw => h w (List.mem_append_right _ hw)]
  exact key ks none hN
theorem resW_nodup (a b c : List Snd) : (resW a b c).Nodup := by
  unfold resW
  split
  · split
    · simp
    · rename_i h; simp [h]
  · simp
  · simp
  · simp
theorem nodup_count {α : Type} [BEq α] [LawfulBEq α] {l : List α} {a : α} (h : l.Nodup) (ha : a ∈ l) : l.count a = 1 := by
  induction l with
  | nil => simp at ha
  | cons x l ih =>
    have h' := List.nodup_cons.1 h
    rw [List.count_cons]
    by_cases e : x = a
    · subst e; rw [List.count_eq_zero_of_not_mem h'.1]; simp
    · rw [ih h'.2 ((List.mem_cons.1 ha).resolve_left fun h => e h.symm)]; simp [e]
theorem count_fnd {ks : List MD} {c w : List Snd} (hw : w.length ≤ 32) : (fnd ks c).count w = ks.countP (supM c w) := by
  induction ks with
  | nil => rfl
  | cons k ks ih =>
    have e : fnd (k :: ks) c = fndM c k ++ fnd ks c := by simp [fnd]
    have h1 : (fndM c k).count w = if supM c w k then 1 else 0 := by
      unfold fndM
      rw [List.count_filter (by simp [short, hw])]
      unfold supM supW
      by_cases h : w ∈ resW k.a.w k.b.w c
      · rw [nodup_count (resW_nodup _ _ _) h]; simp [h]
      · rw [List.count_eq_zero_of_not_mem h]; simp [h]
    rw [e, List.count_append, ih, h1, List.countP_cons]; omega
theorem fnd_votes {ms : List MD} {c w : List Snd} (h : w ∈ fnd ms c) : 1 ≤ votes ms c w := by
  have hl : w.length ≤ 32 := by
    obtain ⟨k, _, hk⟩ := List.mem_flatMap.1 h
    simpa [short] using (List.mem_filter.1 hk).2
  unfold votes
  rw [← count_fnd hl]
  exact List.count_pos_iff.2 h
theorem fnd_snoc {ks : List MD} {c : List Snd} {j : Nat} (hj : j < ks.length) : fnd (ks.take (j + 1)) c = fnd (ks.take j) c ++ fndM c ks[j] := by
  unfold fnd
  rw [List.take_succ_eq_append_getElem hj, List.flatMap_append]; simp
/-- The least, by a comparison. -/
def minD (cmp : List Snd → List Snd → Int) (h : WD) (t : List WD) : WD := t.foldl (fun b x => if cmp x.w b.w < 0 then x else b) h
theorem minD_pick {N : List Snd → Nat} (t : List WD) (h : WD) : some (minD (cmpE N) h t).w = (t.map (·.w)).foldl (pstep N) (some h.w) := by
  induction t generalizing h with
  | nil => rfl
  | cons x t ih =>
    unfold minD at ih ⊢
    rw [List.foldl_cons, List.map_cons, List.foldl_cons, ih]
    congr 1
    by_cases hb : better N x.w h.w
    · rw [if_pos (cmpE_neg.2 hb)]; exact (if_pos hb).symm
    · rw [if_neg fun hc => hb (cmpE_neg.1 hc)]; exact (if_neg hb).symm
theorem minD_mem {cmp : List Snd → List Snd → Int} (t : List WD) (h : WD) : minD cmp h t ∈ h :: t := by
  induction t generalizing h with
  | nil => simp [minD]
  | cons x t ih =>
    unfold minD at ih ⊢
    rw [List.foldl_cons]
    have := ih (if cmp x.w h.w < 0 then x else h)
    rcases List.mem_cons.1 this with e | e
    · rw [e]; split <;> simp
    · simp [e]
theorem minD_snoc {cmp : List Snd → List Snd → Int} {h : WD} {t : List WD} {i : Nat} (hi : i < t.length) : minD cmp h (t.take (i + 1)) = if cmp t[i].w (minD cmp h (t.take i)).w < 0 then t[i] else minD cmp h (t.take i) := by
  unfold minD
  rw [List.take_succ_eq_append_getElem hi, List.foldl_append]; rfl
theorem resW_sub {a b c w : List Snd} (h : w ∈ resW a b c) : ∀ s ∈ w, s ∈ b ∨ s ∈ c := by
  have h1 : ∀ {w}, solveW a b c = some w → ∀ s ∈ w, s ∈ b ∨ s ∈ c := fun {w} hs s hw => by
    unfold solveW applyE at hs
    split at hs
    · cases hs
      rcases List.mem_append.1 hw with h | h
      · exact .inr (List.mem_of_mem_take h)
      · exact .inl (List.mem_of_mem_drop h)
    · cases hs
  have h2 : ∀ {w}, frontW a b c = some w → ∀ s ∈ w, s ∈ b ∨ s ∈ c := fun {w} hs s hw => by
    unfold frontW applyF at hs
    split at hs
    · cases hs
      rcases List.mem_append.1 hw with h | h
      · exact .inl (List.mem_of_mem_take h)
      · exact .inr (List.mem_of_mem_drop h)
    · cases hs
  unfold resW at h
  split at h
  · rename_i x y hx hy
    split at h
    · simp at h; subst h; exact h1 hx
    · simp at h
      rcases h with rfl | rfl
      · exact h1 hx
      · exact h2 hy
  · rename_i x hx hy; simp at h; subst h; exact h1 hx
  · rename_i y hx hy; simp at h; subst h; exact h2 hy
  · simp at h
def VW (w : List Snd) : Prop := ∀ s ∈ w, valid s = true
theorem checkL_valid {l : List (List Snd)} (h : checkL l = 0) : ∀ w ∈ l, VW w := by
  induction l with
  | nil => simp
  | cons w l ih =>
    unfold checkL at h
    split at h
    · rename_i h2; exact absurd h h2
    · rename_i h2
      simp only [ne_eq, Decidable.not_not] at h2
      intro x hx
      rcases List.mem_cons.1 hx with rfl | hx
      · exact (checkW_zero h2).2
      · exact ih h x hx
theorem chkM_valid {ms : List MD} {l : List (List Snd)} (h : chkM ms l = 0) : (∀ x ∈ ms, VW x.a.w ∧ VW x.b.w) ∧ ∀ w ∈ l, VW w := by
  unfold chkM at h
  split at h
  · cases h
  · have := checkL_valid h
    refine ⟨fun x hx => ⟨this _ ?_, this _ ?_⟩, fun w hw => this _ (List.mem_append_right _ hw)⟩ <;> refine List.mem_append_left _ (List.mem_flatMap.2 ⟨x, hx, ?_⟩) <;> simp
end Go.Sy
namespace Go.Proofs.YtpbbnmjkbfbelaaDoor
open Go Go.Sy Go.RowKit
theorem c_minFunc (p : Option Addr) (cp : Nat) (h : WD) (t : List WD) (fv : Value) (hfv : fv.oneCell' = true) (cmp : List Snd → List Snd → Int) (pre : Mv → Prop) (hpre : ∀ R S : Mv, R.le S → pre R → pre S) (hl : t.length < 2 ^ 40) (hf : ∀ x ∈ h :: t, ∀ y ∈ h :: t, FnV Tryd.prog fv [x.v, y.v] pre fun v _ _ => v = .int .i64 (cmp x.w y.w)) :
    RetP Tryd.prog n_slices_MinFunc_____api_Sound___api_Sound_ [slv p (h :: t).length cp, fv] (fun R => Cells R p ((h :: t).map WD.v) ∧ pre R) (minD cmp h t).v := by
  refine Fn.of S_slices_MinFunc_____api_Sound___api_Sound_ mx [.p p, .i (h :: t).length, .i cp, .v fv] (by simp [Sh.eats, Sh.eat, eatV, eatP, eatS, hfv]) rfl fun c hp => .chk (by ((try simp only [evE, liE, letsOf, letU, snd]); (try simp only [cmE])); omega) ?_
  have hlen : (h :: t).length = t.length + 1 := rfl
  refine .join (fun us _ => us = []) (.no (by ((try simp only [evE, liE, letsOf, letU, snd]); (try simp only [cmE])); omega) (.again rfl rfl)) ?_
  rintro _ m _ rfl
  obtain ⟨b, o, hpe⟩ := (hp.1.some (i := 0) (by simp) : ∃ b o, p = some ⟨b, o, none⟩)
  subst hpe
  refine .env (by (try simp only [liE, letsOf, letU, snd, List.append_nil]); rfl) (.chk (by ((try simp only [evE, liE, letsOf, letU, snd]); (try simp only [cmE])); simp) (.loadS ((h :: t).map WD.v) 0 h.p h.w.length h.cap rfl rfl (fun g => hp.1.mono g.R) (.env (by (try simp only [liE, letsOf, letU, snd, List.append_nil]); rfl) ?_)))
  refine .loop (fun n us _ => ∃ (i : Nat) (x : WD), us = [.p x.p, .i x.w.length, .i x.cap, .i (i + 1 : Nat)] ∧ n + i = t.length ∧ x = minD cmp h (t.take i)) t.length ⟨0, h, (by (simp only [evE, liE, letsOf, letU, snd, Sh.uss, Sh.us, atAddr, map_add0, List.append_nil]) <;> rfl), rfl, rfl⟩ ?_
  rintro n _ m _ ⟨i, x, rfl, hn, hx⟩
  refine .env (by (try simp only [liE, letsOf, letU, snd, List.append_nil]); rfl) (.chk (by ((try simp only [evE, liE, letsOf, letU, snd]); (try simp only [cmE])); omega) (.ite (fun h1 => ?_) (fun h1 => .ret (v := x.v) rfl ?_))) <;> ((try simp only [evE, liE, letsOf, letU, snd] at h1); (try simp only [cmE] at h1))
  · have hi : i < t.length := by omega
    have hi1 : i + 1 < (h :: t).length := by omega
    have hti : (h :: t)[i + 1] = t[i] := rfl
    have hxm : x ∈ h :: t := by
      rw [hx]
      rcases List.mem_cons.1 (minD_mem (cmp := cmp) (t.take i) h) with e | e
      · rw [e]; simp
      · exact List.mem_cons_of_mem _ (List.mem_of_mem_take e)
    refine .loadWD (h :: t) (i + 1) hi1 (fun g => hp.1.mono g.R) (.env (by (try simp only [liE, letsOf, letU, snd, List.append_nil]); rfl) (.callvR (hf _ (List.getElem_mem hi1) x hxm) (fun g => hpre _ _ g.R hp.2) (fun m' _ => .env (by (try simp only [liE, letsOf, letU, snd, List.append_nil]); rfl) ?_)))
    · refine .join (fun us _ => us = [.p (minD cmp h (t.take (i + 1))).p, .i (minD cmp h (t.take (i + 1))).w.length, .i (minD cmp h (t.take (i + 1))).cap]) (.ite (fun h2 => ?_) (fun h2 => .again rfl ?_)) ?_
      · ((try simp only [evE, liE, letsOf, letU, snd] at h2); (try simp only [cmE] at h2))
        refine .loadWD (h :: t) (i + 1) hi1 (fun g => hp.1.mono g.R) (.env (by (try simp only [liE, letsOf, letU, snd, List.append_nil]); rfl) (.again rfl ?_))
        (simp only [evE, liE, letsOf, letU, snd, Sh.uss, Sh.us, atAddr, map_add0, List.append_nil])
        rw [hti] at h2
        rw [minD_snoc hi, ← hx, if_pos h2]; rfl
      · ((try simp only [evE, liE, letsOf, letU, snd] at h2); (try simp only [cmE] at h2))
        (simp only [evE, liE, letsOf, letU, snd, Sh.uss, Sh.us, atAddr, map_add0, List.append_nil])
        rw [hti] at h2
        rw [minD_snoc hi, ← hx, if_neg (by omega)]
      rintro _ _ _ rfl
      refine .env (by (try simp only [liE, letsOf, letU, snd, List.append_nil]); rfl) (.again rfl ⟨n - 1, by omega, i + 1, _, ?_, by omega, rfl⟩)
      (simp only [evE, liE, letsOf, letU, snd, Sh.uss, Sh.us, atAddr, map_add0, List.append_nil]); rw [add_i64 (i + 1) (by omega)]
  · rw [hx, List.take_of_length_le (by omega)]
end Go.Proofs.YtpbbnmjkbfbelaaDoor
