/- Chapter 30: the reference's endings, and its Level. -/
import Derived.Test.YtpbbnmjkbfbelaaDoorBe
set_option linter.unusedSimpArgs false
set_option linter.unusedVariables false
namespace Go.Sy
open Go Go.RowKit
theorem csl_from {a b : List Snd} {n : Nat} (h : n ≤ csl a b) : csl a b = n + cpl (a.reverse.drop n) (b.reverse.drop n) := by
  induction n with
  | zero => simp [csl]
  | succ n ih =>
    have h1 := ih (by omega)
    rcases Nat.lt_or_ge n a.length with ha | ha
    · rcases Nat.lt_or_ge n b.length with hb | hb
      · rw [csl_at ha hb] at h1
        split at h1 <;> omega
      · rw [csl_end (.inr hb)] at h1; omega
    · rw [csl_end (.inl ha)] at h1; omega
/-- A word's sound before its last n ones. -/
def SameAt (n : Nat) (s : Snd) (w : List Snd) : Prop := ∃ h : n < w.length, w[w.length - 1 - n] = s
theorem csl_more {a b : List Snd} {n : Nat} {s : Snd} (h : n ≤ csl a b) (ha : SameAt n s a) (hb : SameAt n s b) : n + 1 ≤ csl a b := by
  obtain ⟨ha, ea⟩ := ha
  obtain ⟨hb, eb⟩ := hb
  have h1 := csl_from h
  rw [csl_at ha hb, if_pos (ea.trans eb.symm)] at h1
  omega
theorem csl_same {a b : List Snd} {n : Nat} (h : n < csl a b) : ∃ (ha : n < a.length) (hb : n < b.length), a[a.length - 1 - n] = b[b.length - 1 - n] := by
  have h1 := csl_from (Nat.le_of_lt h)
  rcases Nat.lt_or_ge n a.length with ha | ha
  · rcases Nat.lt_or_ge n b.length with hb | hb
    · rw [csl_at ha hb] at h1
      split at h1
      · rename_i e; exact ⟨ha, hb, e⟩
      · omega
    · rw [csl_end (.inr hb)] at h1; omega
  · rw [csl_end (.inl ha)] at h1; omega
theorem le_endN {h : List Snd} {n : Nat} : ∀ {l : List (List Snd)} (m : Nat), n ≤ m → (∀ w ∈ l, n ≤ csl w h) → n ≤ l.foldl (fun n w => min n (csl w h)) m
  | [], _, hm, _ => hm
  | w :: l, m, hm, hl => by
    rw [List.foldl_cons]
    exact le_endN _ (Nat.le_min.2 ⟨hm, hl w (by simp)⟩) fun x hx => hl x (by simp [hx])
theorem endW_le {K : List (List Snd)} {w : List Snd} (hw : w ∈ K) : endW K ≤ w.length := by
  cases K with
  | nil => simp at hw
  | cons h l => exact Nat.le_trans (endN_mem hw) (csl_le w h).1
theorem endW_ne {K : List (List Snd)} {w w' : List Snd} {n : Nat} {s : Snd} (hw : w ∈ K) (hw' : w' ∈ K) (h1 : n < w.length) (h2 : SameAt n s w') (hne : w[w.length - 1 - n] ≠ s) : endW K ≤ n := by
  cases K with
  | nil => simp at hw
  | cons h l =>
    rcases Nat.lt_or_ge n (endW (h :: l)) with hlt | hge
    · have e1 := csl_same (Nat.lt_of_lt_of_le hlt (endN_mem hw))
      have e2 := csl_same (Nat.lt_of_lt_of_le hlt (endN_mem hw'))
      obtain ⟨_, hb, e1⟩ := e1
      obtain ⟨_, _, e2⟩ := e2
      obtain ⟨_, e3⟩ := h2
      exact absurd (e1.trans (e2.symm.trans e3)) hne
    · exact hge
theorem endW_more {K : List (List Snd)} {n : Nat} {s : Snd} (hK : K ≠ []) (h : n ≤ endW K) (hs : ∀ w ∈ K, SameAt n s w) : n + 1 ≤ endW K := by
  cases K with
  | nil => exact absurd rfl hK
  | cons x l =>
    have hx : csl x x = x.length := by
      have : ∀ l : List Snd, cpl l l = l.length := fun l => by
        induction l with
        | nil => rfl
        | cons a l ih => simp [cpl, ih]; omega
      unfold csl; rw [this, List.length_reverse]
    refine le_endN _ ?_ fun w hw => csl_more (Nat.le_trans h (endN_mem hw)) (hs w hw) (hs x (by simp))
    obtain ⟨hl, _⟩ := hs x (by simp)
    exact hl
theorem endW_all {K : List (List Snd)} {w0 : List Snd} {n : Nat} (h0 : w0 ∈ K) (hn : n ≤ endW K) (hl : n < w0.length) : (∀ w ∈ K, SameAt n w0[w0.length - 1 - n] w) ↔ n < endW K := by
  constructor
  · intro h
    exact endW_more (List.ne_nil_of_mem h0) hn h
  · intro h w hw
    cases K with
    | nil => simp at hw
    | cons x l =>
      obtain ⟨ha, hb, e1⟩ := csl_same (Nat.lt_of_lt_of_le h (endN_mem hw))
      obtain ⟨_, _, e2⟩ := csl_same (Nat.lt_of_lt_of_le h (endN_mem h0))
      exact ⟨ha, e1.trans e2.symm⟩
theorem known_take {t : List LD} {k i : Nat} {w : List Snd} (h : w ∈ (knownF (t.take i) k).map (·.w)) : w ∈ (knownF t k).map (·.w) := by
  have : (knownF (t.take i) k).Sublist (knownF t k) := by unfold knownF; exact (List.take_sublist i t).filterMap _
  exact (this.map _).mem h
section
variable {P : Program} {c : Cx} {L : List Nat} {ρ : Env} {blks : List Blk} {m m1 : Mem} {R : Value → HW → Prop} {Dn : Nat → List U → HW → Prop} {A : List (List U → HW → Prop)}
/-- append to what an append to an empty literal has left: all that was there before both stays. -/
theorem DenM.appendTwo {aa : Array Operand} {t ty e : TypeId} {size bytes : Nat} {sv xv : SV} {k : Tree} {b0 : Nat} {q qx : Option Addr} {cap n kx capx : Nat} {xs news : List Value} (hE : El P t e size bytes) (hR : n ≠ 0 → Row m1 e size q cap n xs ∧ ∀ g, q = some ⟨g, 0, none⟩ → m g = none) (h0 : n = 0 → q = some ⟨b0, 0, none⟩ ∧ cap = 0 ∧ xs = [])
    (hm1 : ∀ b, m b ≠ none → m1 b = m b)
    (hx : Good c L m1 → Cells (vw c L ρ blks m1) qx news) (hl : news.length = kx * size) (h1 : ∀ u ∈ news, u.oneCell' = true) (hn : qx = none → capx = 0) (h63 : n + kx ≤ maxLen) (hbytes : (n + kx) * bytes ≤ 140737488355328)
    (hk : ∀ q' cap' m', (n + kx ≠ 0 → Row m' e size q' cap' (n + kx) (xs ++ news)) → n + kx ≤ cap' → (q' = none → cap' = 0) → (∀ b, m b ≠ none → m' b = m b) → DenM P R Dn k L (ρ ++ [.p q', .i (n + kx : Nat), .i (cap' : Nat)]) c m' A)
    (hv : sv.den L ρ = slv q n cap := by rfl) (hxv : xv.den L ρ = slv qx kx capx := by rfl) (hs : scBlks ρ.length blks = true := by rfl) :
    DenM P R Dn (.ext false ⟨.call ⟨.builtin .append, aa, #[t, t]⟩, ty, [sv, xv]⟩ .sl blks k) L ρ c m1 A := by
  by_cases hn0 : n = 0
  · obtain ⟨rfl, rfl, rfl⟩ := h0 hn0
    subst hn0
    refine .appendOwn (b0 := b0) (n := 0) (xs := []) hE (by simp) (fun _ i x h => by simp at h) hx hl h1 hn h63 hbytes (fun q' cap' m' a1 a2 a3 => hk q' cap' m' (fun h => (a1 (by omega)).1) ?_ (fun hq => ?_) fun b hb => (a3 b (by rw [hm1 b hb]; exact hb)).trans (hm1 b hb)) hv hxv hs
    · by_cases h : kx = 0
      · omega
      · exact (a1 h).1.cap_le
    · by_cases h : kx = 0
      · exact (a2 h).2
      · exact row_cap0 (a1 h).1 hq
  · obtain ⟨hR1, hR2⟩ := hR hn0
    refine .append hE hR1 hx hl h1 hn h63 hbytes (fun q' cap' m' a1 a2 _ => hk q' cap' m' (fun _ => a1) a1.cap_le (row_cap0 a1) fun b hb => ?_) hv hxv hs
    refine (a2 b (fun ⟨o, ho⟩ => ?_) (by rw [hm1 b hb]; exact hb)).trans (hm1 b hb)
    exfalso
    rcases hR1.2 with ⟨k1, _⟩ | ⟨g, _, k1, _⟩
    · rw [k1] at ho; cases ho
    · rw [k1] at ho; cases ho
      exact hb (hR2 b k1)
end
end Go.Sy
namespace Go.Proofs.YtpbbnmjkbfbelaaDoor
open Go Go.Sy Go.RowKit
theorem c_refEnding (p : Option Addr) (cp : Nat) (t : List LD) (cell : Nat) (hl : t.length ≤ 64) (hc : ∀ r ∈ t, cell < r.fs.length) (h16 : ∀ r ∈ t, r.fs.length ≤ 16) (hw : ∀ r ∈ t, ∀ f ∈ r.fs, f.w.w.length ≤ 32) : RetP Tryd.prog n_ref30_ending [slv p t.length cp, .int .i64 cell] (fun R => TableAt R p t) (.int .i64 (endK t cell : Nat)) := by
  refine Fn.of S_ref30_ending mx [.p p, .i t.length, .i cp, .i cell] rfl rfl fun c hp => ?_
  have hE : endK t cell = endW ((knownF t cell).map (·.w)) := rfl
  have hK32 : endW ((knownF t cell).map (·.w)) ≤ 32 := by
    cases hK : (knownF t cell).map (·.w) with
    | nil => simp [endW]
    | cons w l =>
      have hm : w ∈ (knownF t cell).map (·.w) := by rw [hK]; simp
      have := endW_le hm
      obtain ⟨x, hx, rfl⟩ := List.mem_map.1 hm
      obtain ⟨r, hr, f, hf, rfl⟩ := knownF_mem hx
      have := hw r hr f hf
      rw [← hK]; omega
  rw [hE]
  refine .loop (fun n us _ => ∃ (x : Int) (k : Nat), us = [.i x, .i k] ∧ n + k = 33 ∧ k ≤ endW ((knownF t cell).map (·.w))) 33 ⟨0, 0, rfl, rfl, Nat.zero_le _⟩ ?_
  rintro n _ m _ ⟨x, k, rfl, hn, hk⟩
  refine .env (by (try simp only [liE, letsOf, letU, snd, List.append_nil]); rfl) (.alloc fun b0 => .loop (fun n us _ => ∃ (x : Int) (y : Bool) (i : Nat) (s : Snd), us = [.i x, .b y, .i i, .i s.1, .i s.2] ∧ n + i = t.length ∧ (y = true ↔ (knownF (t.take i) cell).map (·.w) ≠ []) ∧ ∀ w ∈ (knownF (t.take i) cell).map (·.w), SameAt k s w) t.length ⟨x, false, 0, (0, 0), rfl, rfl, by simp [knownF], by simp [knownF]⟩ ?_)
  rintro n1 _ m _ ⟨x1, y, i, s, rfl, hn1, hy, hs⟩
  refine .env (by (try simp only [liE, letsOf, letU, snd, List.append_nil]); rfl) (.chk (by ((try simp only [evE, liE, letsOf, letU, snd]); (try simp only [cmE])); omega) (.ite (fun h1 => ?_) (fun h1 => ?_))) <;> ((try simp only [evE, liE, letsOf, letU, snd] at h1); (try simp only [cmE] at h1))
  · have hi : i < t.length := by omega
    have hci := hc _ (List.getElem_mem hi)
    have hpi := hp.2 _ (List.getElem_mem hi)
    have hki := List.getElem_mem hci
    have h32 := hw _ (List.getElem_mem hi) _ hki
    have hat := hpi.2 _ hki
    have hsn := knownF_snoc hi hci
    refine .loadLD t i hi (fun g => hp.1.mono g.R) (.env (by (try simp only [liE, letsOf, letU, snd, List.append_nil]); rfl) (.loadFD t[i].fs cell hci (fun g => hpi.1.mono g.R) (.env (by (try simp only [liE, letsOf, letU, snd, List.append_nil]); rfl) (.alloc fun b1 => .ite (fun h2 => .again rfl ⟨n1 - 1, by omega, x1, y, i + 1, s, ?_, by omega, ?_⟩) (fun h2 => .chk (by ((try simp only [evE, liE, letsOf, letU, snd]); (try simp only [cmE])); omega) ?_)))))
    · (simp only [evE, liE, letsOf, letU, snd, Sh.uss, Sh.us, atAddr, map_add0, List.append_nil]); rw [add_i64 i (by omega)]
    · replace h2 : (!t[i].fs[cell].has) = true := h2
      rw [hsn, if_neg (by simpa using h2), List.append_nil]
      exact ⟨hy, hs⟩
    replace h2 : (!t[i].fs[cell].has) = false := h2
    have h2' : t[i].fs[cell].has = true := by simpa using h2
    rw [h2', if_pos rfl] at hsn
    replace hsn := congrArg (List.map (·.w)) hsn
    rw [List.map_append, List.map_cons, List.map_nil] at hsn
    have hmem : t[i].fs[cell].w.w ∈ (knownF t cell).map (·.w) := known_take (i := i + 1) (by rw [hsn]; simp)
    have hle := endW_le hmem
    generalize t[i].fs[cell] = f at *
    refine .ite (fun h3 => ?_) (fun h3 => .ret rfl ?_) <;> ((try simp only [evE, liE, letsOf, letU, snd] at h3); (try simp only [cmE] at h3))
    · have hk1 : k < f.w.w.length := by omega
      have e0 : ar .sub .i64 (f.w.w.length : Int) 1 = ((f.w.w.length - 1 : Nat) : Int) := by rw [subI (by omega) (by omega)]; omega
      have e1 : ar .sub .i64 (ar .sub .i64 (f.w.w.length : Int) 1) (k : Int) = ((f.w.w.length - 1 - k : Nat) : Int) := by rw [e0, subI (by omega) (by omega)]; omega
      have next : ∀ s' : Snd, f.w.w[f.w.w.length - 1 - k] = s' → (∀ w ∈ (knownF (t.take i) cell).map (·.w), SameAt k s' w) → ((true = true ↔ (knownF (t.take i) cell).map (·.w) ++ [f.w.w] ≠ []) ∧ ∀ w ∈ (knownF (t.take i) cell).map (·.w) ++ [f.w.w], SameAt k s' w) := fun s' he hs' => ⟨by simp, fun w hw' => by
        rcases List.mem_append.1 hw' with hw' | hw'
        · exact hs' w hw'
        · simp at hw'; subst hw'; exact ⟨hk1, he⟩⟩
      refine .ite (fun h4 => .chk (by ((try simp only [evE, liE, letsOf, letU, snd]); (try simp only [cmE])); omega) ?_) (fun h4 => .chk (by ((try simp only [evE, liE, letsOf, letU, snd]); (try simp only [cmE])); omega) ?_)
      · replace h4 : y = true := h4
        refine .loadW f.w.w (f.w.w.length - 1 - k) (by omega) (fun g => hat.mono g.R) ?_ (hI := (show ar .sub .i64 (ar .sub .i64 (f.w.w.length : Int) 1) (k : Int) = _ from e1))
        refine .env (by (try simp only [liE, letsOf, letU, snd, List.append_nil]); rfl) (.ite (fun h5 => .ret rfl ?_) (fun h5 => .chk (by ((try simp only [evE, liE, letsOf, letU, snd]); (try simp only [cmE])); omega) ?_))
        · replace h5 : (!(bif cm .eql (f.w.w[f.w.w.length - 1 - k].1 : Int) (s.1 : Int) then cm .eql (f.w.w[f.w.w.length - 1 - k].2 : Int) (s.2 : Int) else false)) = true := h5
          have hne : f.w.w[f.w.w.length - 1 - k] ≠ s := fun e => by rw [e] at h5; simp [cm] at h5
          obtain ⟨w', hw'⟩ := List.exists_mem_of_ne_nil _ (hy.1 h4)
          have := endW_ne hmem (known_take hw') hk1 (hs w' hw') hne
          have : endW ((knownF t cell).map (·.w)) = k := by omega
          rw [this]; rfl
        · replace h5 : (!(bif cm .eql (f.w.w[f.w.w.length - 1 - k].1 : Int) (s.1 : Int) then cm .eql (f.w.w[f.w.w.length - 1 - k].2 : Int) (s.2 : Int) else false)) = false := h5
          have he : f.w.w[f.w.w.length - 1 - k] = s := by
            simp [cm] at h5
            exact Prod.ext (by omega) (by omega)
          refine .loadW f.w.w (f.w.w.length - 1 - k) (by omega) (fun g => hat.mono g.R) ?_ (hI := (show ar .sub .i64 (ar .sub .i64 (f.w.w.length : Int) 1) (k : Int) = _ from e1))
          refine .again rfl ⟨n1 - 1, by omega, x1, true, i + 1, f.w.w[f.w.w.length - 1 - k]'(by omega), ?_, by omega, ?_⟩
          · (simp only [evE, liE, letsOf, letU, snd, Sh.uss, Sh.us, atAddr, map_add0, List.append_nil]); rw [add_i64 i (by omega)]
          · rw [hsn]
            exact next _ rfl (by rw [he]; exact hs)
      · replace h4 : y = false := h4
        have hnil : (knownF (t.take i) cell).map (·.w) = [] := Classical.byContradiction fun h => by rw [hy.2 h] at h4; cases h4
        refine .loadW f.w.w (f.w.w.length - 1 - k) (by omega) (fun g => hat.mono g.R) ?_ (hI := (show ar .sub .i64 (ar .sub .i64 (f.w.w.length : Int) 1) (k : Int) = _ from e1))
        refine .again rfl ⟨n1 - 1, by omega, x1, true, i + 1, f.w.w[f.w.w.length - 1 - k]'(by omega), ?_, by omega, ?_⟩
        · (simp only [evE, liE, letsOf, letU, snd, Sh.uss, Sh.us, atAddr, map_add0, List.append_nil]); rw [add_i64 i (by omega)]
        · rw [hsn]
          exact next _ rfl (by rw [hnil]; simp)
    · have : endW ((knownF t cell).map (·.w)) = k := by omega
      rw [this]; rfl
  · rw [List.take_of_length_le (by omega)] at hy hs
    refine .ite (fun h2 => .ret rfl ?_) (fun h2 => .again rfl ⟨n - 1, by omega, x1, k + 1, ?_, by omega, ?_⟩)
    · replace h2 : (!y) = true := h2
      have hnil : (knownF t cell).map (·.w) = [] := Classical.byContradiction fun h => by rw [hy.2 h] at h2; cases h2
      rw [hnil] at hk ⊢
      have : k = 0 := by simpa [endW] using hk
      rw [this]; rfl
    · (simp only [evE, liE, letsOf, letU, snd, Sh.uss, Sh.us, atAddr, map_add0, List.append_nil]); rw [add_i64 k (by omega)]
    · replace h2 : (!y) = false := h2
      exact endW_more (hy.1 (by simpa using h2)) hk hs
set_option maxHeartbeats 4000000 in
theorem c_refLevel (p : Option Addr) (cp : Nat) (t : List LD) (rw cl : Int) (hl : t.length < 2 ^ 62) (hf : ∀ r ∈ t, r.fs.length < 2 ^ 62 ∧ r.fs.length ≤ r.cap ∧ (r.p = none → r.cap = 0)) (hok : FormsOk t) : FnM Tryd.prog n_ref30_Level [slv p t.length cp, .int .i64 rw, .int .i64 cl] (fun R => TableAt R p t) fun v mq _ => TabR mq v (levR t rw cl) := by
  refine FnM.of S_ref30_Level mx [.p p, .i t.length, .i cp, .i rw, .i cl] rfl rfl fun c hp => .callV (c_ref29Check p cp t hl (fun r hr => (hf r hr).1) hok) (fun g => hp.mono g.R) (.env (by (try simp only [liE, letsOf, letU, snd, List.append_nil]); rfl) (.ite (fun h1 => .ret rfl ?_) (fun h1 => ?_))) <;> ((try simp only [evE, liE, letsOf, letU, snd] at h1); (try simp only [cmE] at h1))
  · have : levR t rw cl = ([], checkT t) := by unfold levR; rw [if_pos h1]
    rw [this]; exact TabR.none _ _
  rw [h1]
  obtain ⟨l64, l16, leq, l32⟩ := checkT_zero h1
  have hR : levR t rw cl = if rw < 0 ∨ rw ≥ t.length ∨ cl < 0 then ([], 3) else match t[rw.toNat]? with
    | none => ([], 3)
    | some r => match r.fs[cl.toNat]? with
      | none => ([], 3)
      | some F => levF t rw.toNat cl.toNat r F := by unfold levR; rw [if_neg (fun h => h h1)]; rfl
  refine .ite (fun h2 => .ret rfl ?_) (fun h2 => .chk (by ((try simp only [evE, liE, letsOf, letU, snd]); (try simp only [cmE])); omega) (.ite (fun h3 => .ret rfl ?_) (fun h3 => ?_))) <;> ((try simp only [evE, liE, letsOf, letU, snd] at h2); (try simp only [cmE] at h2))
  · rw [hR, if_pos (.inl h2)]; exact TabR.none _ _
  · replace h3 : (bif cm .geq rw (t.length : Int) then true else cm .lss cl 0) = true := h3
    have : rw < 0 ∨ rw ≥ t.length ∨ cl < 0 := by
      simp only [cm] at h3
      by_cases h : rw ≥ t.length
      · exact .inr (.inl h)
      · simp [h] at h3; exact .inr (.inr h3)
    rw [hR, if_pos this]; exact TabR.none _ _
  replace h3 : (bif cm .geq rw (t.length : Int) then true else cm .lss cl 0) = false := h3
  have h3' : rw < t.length ∧ 0 ≤ cl := by
    simp only [cm] at h3
    by_cases h : rw ≥ t.length
    · simp [h] at h3
    · simp [h] at h3; omega
  obtain ⟨row, rfl⟩ : ∃ n : Nat, rw = n := ⟨rw.toNat, by omega⟩
  obtain ⟨cell, rfl⟩ : ∃ n : Nat, cl = n := ⟨cl.toNat, by omega⟩
  have hrow : row < t.length := by omega
  have h0 : 0 < t.length := by omega
  rw [hR, if_neg (by omega), Int.toNat_natCast, Int.toNat_natCast, List.getElem?_eq_getElem hrow]
  clear hR
  have hprow := hp.2 _ (List.getElem_mem hrow)
  refine .loadLD t row hrow (fun g => hp.1.mono g.R) (.env (by (try simp only [liE, letsOf, letU, snd, List.append_nil]); rfl) (.chk (by ((try simp only [evE, liE, letsOf, letU, snd]); (try simp only [cmE])); omega) (.ite (fun h4 => .ret rfl ?_) (fun h4 => ?_)))) <;> ((try simp only [evE, liE, letsOf, letU, snd] at h4); (try simp only [cmE] at h4))
  · have : t[row].fs[cell]? = none := List.getElem?_eq_none (by omega)
    simp only [this]; exact TabR.none _ _
  have hcell : cell < t[row].fs.length := by omega
  simp only [List.getElem?_eq_getElem hcell]
  refine .loadLD t row hrow (fun g => hp.1.mono g.R) (.env (by (try simp only [liE, letsOf, letU, snd, List.append_nil]); rfl) (.loadFD t[row].fs cell hcell (fun g => hprow.1.mono g.R) (.env (by (try simp only [liE, letsOf, letU, snd, List.append_nil]); rfl) (.alloc fun a0 => .ite (fun h5 => .ret rfl ?_) (fun h5 => .chk (by ((try simp only [evE, liE, letsOf, letU, snd]); (try simp only [cmE])); omega) ?_)))))
  · replace h5 : (!t[row].fs[cell].has) = true := h5
    have : levF t row cell t[row] t[row].fs[cell] = ([], 5) := by unfold levF; rw [if_pos (by simpa using h5)]
    rw [this]; exact TabR.none _ _
  replace h5 : (!t[row].fs[cell].has) = false := h5
  have hlev : levF t row cell t[row] t[row].fs[cell] = if (lvRow t (t[row].fs[cell].w.w.take (t[row].fs[cell].w.w.length - endK t cell)) row row t[row]).any longF = true then ([], 11) else (lvTab t (t[row].fs[cell].w.w.take (t[row].fs[cell].w.w.length - endK t cell)) row, 0) := by unfold levF; rw [if_neg (by simpa using h5)]
  rw [hlev]
  clear hlev
  have hF := hok _ (List.getElem_mem hrow) _ (List.getElem_mem hcell)
  have hFl := l32 _ (List.getElem_mem hrow) _ (List.getElem_mem hcell)
  have hFat := hprow.2 _ (List.getElem_mem hcell)
  have hn0 := leq h0
  have hrn := hn0 _ (List.getElem_mem hrow)
  have h16 := l16 _ (List.getElem_mem h0)
  have hget : t[row].fs[cell]? = some t[row].fs[cell] := List.getElem?_eq_getElem hcell
  generalize t[row].fs[cell] = F at *
  have hcn : cell < t[0].fs.length := by omega
  have hEF : endK t cell ≤ F.w.w.length := endK_le (List.getElem_mem hrow) hget (by simpa using h5)
  have hend : ∀ k, k < t[0].fs.length → RetP Tryd.prog n_ref30_ending [slv p t.length cp, .int .i64 k] (fun R => TableAt R p t) (.int .i64 (endK t k : Nat)) := fun k hk => c_refEnding p cp t k l64 (fun r hr => by rw [hn0 r hr]; exact hk) l16 l32
  refine .callV (hend cell hcn) (fun g => hp.mono g.R) (.env (by (try simp only [liE, letsOf, letU, snd, List.append_nil]); rfl) ?_)
  obtain ⟨nb, hnb⟩ : ∃ nb, nb = F.w.w.length - endK t cell := ⟨_, rfl⟩
  have enb : ar .sub .i64 (F.w.w.length : Int) (endK t cell : Nat) = (nb : Int) := by rw [subI (by omega) (by omega)]; omega
  have ofl := hF.2.le
  rw [← hnb]
  refine .chk ?_ ?_
  · show (bif cm .leq 0 (ar .sub .i64 (F.w.w.length : Int) (endK t cell : Nat)) then cm .leq (ar .sub .i64 (F.w.w.length : Int) (endK t cell : Nat)) (F.w.cap : Int) else false) = true
    rw [enb]
    simp only [cm, pick_and, Bool.and_eq_true, decide_eq_true_eq]; omega
  -- the rows
  refine .loop (fun n us mm => ∃ (p1 : Option Addr) (n1 c1 x1 : Int) (i : Nat) (qo : Option Addr) (co : Nat) (rows : List LD), us = [.p p1, .i n1, .i c1, .i x1, .p qo, .i rows.length, .i co, .i i] ∧ n + i = t.length ∧ rows.map LD.data = (lvTab t (F.w.w.take nb) row).take i ∧ rows.length = i ∧ TabIn mm qo co rows ∧
      (row < i → (lvRow t (F.w.w.take nb) row row t[row]).any longF = false)) t.length
    ⟨none, 0, 0, 0, 0, none, 0, [], rfl, rfl, by simp, rfl, ⟨Row.nil _ _ _, by simp⟩, fun h => by omega⟩ ?_
  rintro n _ m _ ⟨p1, n1, c1, x1, i, qo, co, rows, rfl, hn, hrd, hrl, hT, hsh⟩
  refine .env (by (try simp only [liE, letsOf, letU, snd, List.append_nil]); rfl) (.chk (by ((try simp only [evE, liE, letsOf, letU, snd]); (try simp only [cmE])); omega) (.ite (fun h6 => ?_) (fun h6 => .ret rfl ?_))) <;> ((try simp only [evE, liE, letsOf, letU, snd] at h6); (try simp only [cmE] at h6))
  · have hi : i < t.length := by omega
    have hri := hn0 _ (List.getElem_mem hi)
    have hpi := hp.2 _ (List.getElem_mem hi)
    refine .loop (fun n us mm => ∃ (p2 : Option Addr) (n2 c2 x2 : Int) (k : Nat) (ql : Option Addr) (cql : Nat) (l : List FD), us = [.p p2, .i n2, .i c2, .i x2, .p ql, .i l.length, .i cql, .i k] ∧ n + k = t[i].fs.length ∧ l.length = k ∧ l.map FD.data = (lvRow t (F.w.w.take nb) row i t[i]).take k ∧ (∀ f ∈ l, RowW mm 31 f.w.p f.w.cap f.w.w) ∧ Row mm 41 2 ql cql l.length (fcells l) ∧ TabIn mm qo co rows ∧
        (∀ r ∈ rows, ∀ b, r.fs ≠ [] → r.p = some ⟨b, 0, none⟩ → ql ≠ some ⟨b, 0, none⟩) ∧ (i = row → ∀ x ∈ (lvRow t (F.w.w.take nb) row i t[i]).take k, longF x = false)) t[i].fs.length
      ⟨p1, n1, c1, x1, 0, none, 0, [], (by (simp only [evE, liE, letsOf, letU, snd, Sh.uss, Sh.us, atAddr, map_add0, List.append_nil]) <;> rfl), rfl, rfl, by simp, by simp, Row.nil _ _ _, hT, by simp, fun _ => by simp⟩ ?_
    clear hT
    rintro n1 _ m _ ⟨p2, n2, c2, x2, k, ql, cql, l, rfl, hn1, hll, hdat, hwk, hL, hT, hap, hshk⟩
    refine .env (by (try simp only [liE, letsOf, letU, snd, List.append_nil]); rfl) (.loadLD t i hi (fun g => hp.1.mono g.R) (.env (by (try simp only [liE, letsOf, letU, snd, List.append_nil]); rfl) (.chk (by ((try simp only [evE, liE, letsOf, letU, snd]); (try simp only [cmE])); omega) (.ite (fun h7 => ?_) (fun h7 => .alloc fun a1 => ?_))))) <;> ((try simp only [evE, liE, letsOf, letU, snd] at h7); (try simp only [cmE] at h7))
    · have hk : k < t[i].fs.length := by omega
      have hkc : k < t[0].fs.length := by omega
      have hfo := hok _ (List.getElem_mem hi) _ (List.getElem_mem hk)
      have hfl := l32 _ (List.getElem_mem hi) _ (List.getElem_mem hk)
      have hfat := hpi.2 _ (List.getElem_mem hk)
      have hlk := lvRow_take (t := t) (base := F.w.w.take nb) (row := row) (i := i) hk
      have hgk : t[i].fs[k]? = some t[i].fs[k] := List.getElem?_eq_getElem hk
      refine .loadLD t i hi (fun g => hp.1.mono g.R) (.env (by (try simp only [liE, letsOf, letU, snd, List.append_nil]); rfl) (.loadHas t[i].fs k hk (fun g => hpi.1.mono g.R) (.env (by (try simp only [liE, letsOf, letU, snd, List.append_nil]); rfl) (.loadLD t i hi (fun g => hp.1.mono g.R) (.env (by (try simp only [liE, letsOf, letU, snd, List.append_nil]); rfl) (.loadFW t[i].fs k hk (fun g => hpi.1.mono g.R) ?_))))))
      have step : ∀ {mm : Mem} {w : WD} {q3 : Option Addr} {k3 : Nat} {m3 : Mem}, (∀ b, m b ≠ none → mm b = m b) → RowW mm 31 w.p w.cap w.w → (t[i].fs[k].has, w.w) = lvF t (F.w.w.take nb) row i k t[i].fs[k] → (i = row → w.w.length ≤ 32) → Row m3 41 2 q3 k3 (l.length + 1) (fcells l ++ fcells [FD.mk t[i].fs[k].has w]) → (∀ b, ((∃ o, ql = some ⟨b, o, none⟩) → cql < l.length + 1) → mm b ≠ none → m3 b = mm b) → (q3 = ql ∨ ∃ g, q3 = some ⟨g, 0, none⟩ ∧ mm g = none) →
          l.length + 1 = (l ++ [FD.mk t[i].fs[k].has w] : List FD).length ∧ (l ++ [FD.mk t[i].fs[k].has w]).map FD.data = (lvRow t (F.w.w.take nb) row i t[i]).take (k + 1) ∧ (∀ f ∈ l ++ [FD.mk t[i].fs[k].has w], RowW m3 31 f.w.p f.w.cap f.w.w) ∧ Row m3 41 2 q3 k3 (l ++ [FD.mk t[i].fs[k].has w]).length (fcells (l ++ [FD.mk t[i].fs[k].has w])) ∧ TabIn m3 qo co rows ∧
        (∀ r ∈ rows, ∀ b, r.fs ≠ [] → r.p = some ⟨b, 0, none⟩ → q3 ≠ some ⟨b, 0, none⟩) ∧ (i = row → ∀ x ∈ (lvRow t (F.w.w.take nb) row i t[i]).take (k + 1), longF x = false) := fun {mm w q3 k3 m3} hmm hw hv hw32 hr3 hk3 hq3 => by
        have hLm : Row mm 41 2 ql cql l.length (fcells l) := hL.keep fun g _ hg => hmm g hg
        have hkT : ∀ b cur e, e ≠ 41 → mm b = some (.cells cur e (0, 0)) → m3 b = mm b := fun b cur e he hb => hk3 b (fun ⟨o, ho⟩ => by
          obtain ⟨cur', hcur'⟩ := hLm.at_cells ho
          rw [hcur'] at hb; cases hb; exact absurd rfl he) (by rw [hb]; simp)
        have hTm : TabIn mm qo co rows := hT.keepT (fun b cur hb => hmm b (by rw [hb]; simp)) (fun b cur hb => hmm b (by rw [hb]; simp)) fun _ _ b cur _ hb _ => hmm b (by rw [hb]; simp)
        refine ⟨by simp, ?_, fun f hf => ?_, ?_, hTm.keepT (fun b cur hb => hkT b cur 39 (by decide) hb) (fun b cur hb => hkT b cur 31 (by decide) hb) (fun r hr b cur hrp hb hne => hk3 b (fun ⟨o, ho⟩ => ?_) (by rw [hb]; simp)), fun r hr b hne hrp hq => ?_, fun e x hx => ?_⟩
        · rw [List.map_append, hdat, hlk, ← hv]; rfl
        · rcases List.mem_append.1 hf with hf | hf
          · exact ((hwk f hf).keep hmm).keepT fun b cur hb => hkT b cur 31 (by decide) hb
          · simp only [List.mem_cons, List.not_mem_nil, or_false] at hf
            subst hf
            exact hw.keepT fun b cur hb => hkT b cur 31 (by decide) hb
        · rw [fcells_append, List.length_append]; exact hr3
        · exfalso
          obtain ⟨cur', hcur'⟩ := hLm.at_cells ho
          rcases hLm.2 with ⟨k1, _⟩ | ⟨g, _, k1, _⟩
          · rw [k1] at ho; cases ho
          · rw [k1] at ho; cases ho
            exact hap r hr _ hne hrp k1
        · rcases hq3 with h | ⟨g, h, hg⟩
          · rw [h] at hq; exact hap r hr b hne hrp hq
          · rw [h] at hq; cases hq
            obtain ⟨cur, hcur⟩ := ((hTm.rows r hr).1.row hne).at_cells hrp
            rw [hcur] at hg; cases hg
        · rw [hlk, ← hv] at hx
          rcases List.mem_append.1 hx with hx | hx
          · exact hshk e x hx
          · simp only [List.mem_cons, List.not_mem_nil, or_false] at hx
            subst hx
            exact decide_eq_false (by have := hw32 e; show ¬ w.w.length > 32; omega)
      generalize hff : t[i].fs[k] = f at *
      refine .env (by (try simp only [liE, letsOf, letU, snd, List.append_nil]); rfl) (.callM (c_refCopy f.w.p f.w.cap f.w.w (by omega)) rfl rfl (fun g => hfat.mono g.R) ?_)
      rintro v mq hfr ⟨q1, k1, rfl, hr1⟩
      have hr1 := (RowW.of hr1).joinR (m := m) fun b hb => (hfr b hb).1
      have hmm : ∀ b, m b ≠ none → (m.join mq) b = m b := fun b hb => Mem.join_old hb
      refine ⟨[.p q1, .i (f.w.w.length : Nat), .i (k1 : Nat)], ⟨_, _, _, rfl⟩, (slv_fresh _ _ _ _ _).symm, .env (by (try simp only [liE, letsOf, letU, snd, List.append_nil]); rfl) (.alloc fun a1 => ?_)⟩
      have hLq := hL.keep (m' := m.join mq) fun g _ hg => hmm g hg
      generalize m.join mq = mm at *
      clear hfr
      refine .ite (fun h8 => .chk (by ((try simp only [evE, liE, letsOf, letU, snd]); (try simp only [cmE])); omega) (.alloc fun a2 => ?_)) (fun h8 => .alloc fun a2 => ?_)
      · replace h8 : (bif cm .eql (i : Int) (row : Int) then f.has else false) = true := h8
        have h9 : i = row ∧ f.has = true := by
          rw [pick_and, Bool.and_eq_true] at h8
          simp only [cm, beq_iff_eq] at h8
          exact ⟨by omega, h8.2⟩
        have hEf := endK_le (List.getElem_mem hi) hgk h9.2
        have hlF : lvF t (F.w.w.take nb) row i k f = (f.has, lvW t (F.w.w.take nb) k f) := by unfold lvF; rw [if_pos h9]
        have hul : (F.w.upto nb).w.length = nb := by simp [WD.upto]; omega
        refine .appendOwn (b0 := a2) (n := 0) (xs := []) (qx := (F.w.upto nb).p) (kx := (F.w.upto nb).w.length) (capx := (F.w.upto nb).cap) (news := wcells (F.w.upto nb).w) el22 rfl (fun _ i x h => by simp at h) (fun g => WordAt.upto (hFat.mono g.R) nb) (wcells_len _) (wcells_one _) (WD.upto_ok hF.2 nb).nil (by simp [maxLen]; omega) (by omega) (fun q2 k2 m2 hr2 h02 hm2 => ?_) (hxv := den_upto (x := F.w) (n := nb) rfl rfl (by show ar .sub .i64 (F.w.w.length : Int) (endK t cell : Nat) = _; exact enb) (by omega))
        rw [Nat.zero_add, List.nil_append] at hr2
        rw [Nat.zero_add]
        refine .env (by (try simp only [liE, letsOf, letU, snd, List.append_nil]); rfl) (.callV (hend k hkc) (fun g => hp.mono g.R) (.env (by (try simp only [liE, letsOf, letU, snd, List.append_nil]); rfl) ?_))
        obtain ⟨ns, hns⟩ : ∃ ns, ns = f.w.w.length - endK t k := ⟨_, rfl⟩
        have ens : ar .sub .i64 (f.w.w.length : Int) (endK t k : Nat) = (ns : Int) := by rw [subI (by omega) (by omega)]; omega
        have ole : f.w.w.length ≤ k1 := hr1.le
        have okX : WD.ok ⟨q1, k1, f.w.w⟩ := hr1.ok
        refine .chk ?_ (.appendTwo (m := mm) (b0 := a2) (n := (F.w.upto nb).w.length) (xs := wcells (F.w.upto nb).w) (qx := (WD.from ⟨q1, k1, f.w.w⟩ ns).p) (kx := (WD.from ⟨q1, k1, f.w.w⟩ ns).w.length) (capx := (WD.from ⟨q1, k1, f.w.w⟩ ns).cap) (news := wcells (WD.from ⟨q1, k1, f.w.w⟩ ns).w) el22 hr2 (fun h => ⟨(h02 h).1, (h02 h).2, by rw [List.length_eq_zero_iff.1 h]; rfl⟩) hm2 (fun g => WordAt.from ((hr1.keep hm2).reads g) ole ns) (wcells_len _) (wcells_one _) (WD.from_ok okX (by show ns ≤ f.w.w.length; omega)).nil (by simp [maxLen, WD.from]; omega) (by simp [WD.from]; omega) (fun q4 k4 m4 hr4 hle4 hn4 hm4 => ?_) (hxv := den_from (x := ⟨q1, k1, f.w.w⟩) (n := ns) rfl rfl (by show ar .sub .i64 (f.w.w.length : Int) (endK t k : Nat) = _; exact ens) rfl))
        · show (bif cm .leq 0 (ar .sub .i64 (f.w.w.length : Int) (endK t k : Nat)) then (bif cm .leq (ar .sub .i64 (f.w.w.length : Int) (endK t k : Nat)) (f.w.w.length : Int) then cm .leq (f.w.w.length : Int) (k1 : Int) else false) else false) = true
          rw [ens]
          simp only [cm, pick_and, Bool.and_eq_true, decide_eq_true_eq]; omega
        have hcat : (F.w.upto nb).w ++ (WD.from ⟨q1, k1, f.w.w⟩ ns).w = lvW t (F.w.w.take nb) k f := by simp [WD.from, WD.upto, lvW, hns]
        have hlen : (F.w.upto nb).w.length + (WD.from ⟨q1, k1, f.w.w⟩ ns).w.length = (lvW t (F.w.w.take nb) k f).length := by rw [← hcat, List.length_append]
        have hcl : (lvW t (F.w.w.take nb) k f).length ≤ 64 := by unfold lvW; simp only [List.length_append, List.length_take, List.length_drop]; omega
        rw [← wcells_append, hcat, hlen] at hr4
        rw [hlen] at hle4 ⊢
        generalize lvW t (F.w.w.take nb) k f = nw at *
        have hw4 : RowW m4 31 q4 k4 nw := ⟨fun h => hr4 fun h2 => h (List.length_eq_zero_iff.1 h2), hn4, hle4⟩
        clear hr2 h02 hr4 hm2
        refine .env (by (try simp only [liE, letsOf, letU, snd, List.append_nil]); rfl) (.chk (by ((try simp only [evE, liE, letsOf, letU, snd]); (try simp only [cmE])); omega) (.ite (fun h10 => .ret rfl ?_) (fun h10 => .alloc fun a3 => ?_))) <;> ((try simp only [evE, liE, letsOf, letU, snd] at h10); (try simp only [cmE] at h10))
        · have hany : (lvRow t (F.w.w.take nb) row row t[row]).any longF = true := by
            obtain ⟨rfl, _⟩ := h9
            refine List.any_eq_true.2 ⟨_, List.mem_of_getElem? (lvRow_at hk), ?_⟩
            rw [hff, hlF]
            exact decide_eq_true (by show nw.length > 32; omega)
          rw [if_pos hany]; exact TabR.none _ _
        · have hLm : Row m4 41 2 ql cql l.length (fcells l) := hLq.keep fun g _ hg => hm4 g hg
          refine .append (n := l.length) (kx := 1) (qx := some ⟨a3, 0, none⟩) (capx := 1) (news := fcells [⟨f.has, ⟨q4, k4, nw⟩⟩]) el39 hLm (fun g => g.cells (j := 3) rfl rfl rfl) rfl (fcells_one _) (fun h => by cases h) (by simp [maxLen]; omega) (by omega) (fun q3 k3 m3 hr3 hk3 hq3 => ?_)
          obtain ⟨s1, s2, s3, s4, s5, s6, s7⟩ := step (w := ⟨q4, k4, nw⟩) (fun b hb => (hm4 b (by rw [hmm b hb]; exact hb)).trans (hmm b hb)) hw4 hlF.symm (fun _ => by show nw.length ≤ 32; omega) hr3 hk3 hq3
          rw [s1]
          exact .env (by (try simp only [liE, letsOf, letU, snd, List.append_nil]); rfl) (.again rfl ⟨n1 - 1, by omega, p2, n2, c2, x2, k + 1, q3, k3, _, by (simp only [evE, liE, letsOf, letU, snd, Sh.uss, Sh.us, atAddr, map_add0, List.append_nil]); rw [add_i64 k (by omega)], by omega, by rw [← s1, hll], s2, s3, s4, s5, s6, s7⟩)
      · replace h8 : (bif cm .eql (i : Int) (row : Int) then f.has else false) = false := h8
        have h9 : ¬ (i = row ∧ f.has = true) := fun ⟨e1, e2⟩ => by rw [e1, e2] at h8; simp [cm] at h8
        have hlF : lvF t (F.w.w.take nb) row i k f = (f.has, f.w.w) := by unfold lvF; rw [if_neg h9]
        refine .append (n := l.length) (kx := 1) (qx := some ⟨a2, 0, none⟩) (capx := 1) (news := fcells [⟨f.has, ⟨q1, k1, f.w.w⟩⟩]) el39 hLq (fun g => g.cells (j := 2) rfl rfl rfl) rfl (fcells_one _) (fun h => by cases h) (by simp [maxLen]; omega) (by omega) (fun q3 k3 m3 hr3 hk3 hq3 => ?_)
        obtain ⟨s1, s2, s3, s4, s5, s6, s7⟩ := step (w := ⟨q1, k1, f.w.w⟩) hmm hr1 hlF.symm (fun _ => by show f.w.w.length ≤ 32; omega) hr3 hk3 hq3
        rw [s1]
        exact .env (by (try simp only [liE, letsOf, letU, snd, List.append_nil]); rfl) (.again rfl ⟨n1 - 1, by omega, p2, n2, c2, x2, k + 1, q3, k3, _, by (simp only [evE, liE, letsOf, letU, snd, Sh.uss, Sh.us, atAddr, map_add0, List.append_nil]); rw [add_i64 k (by omega)], by omega, by rw [← s1, hll], s2, s3, s4, s5, s6, s7⟩)
    · have hkl : t[i].fs.length ≤ k := by omega
      rw [List.take_of_length_le (by rw [lvRow_len]; exact hkl)] at hdat
      rw [List.take_of_length_le (by rw [lvRow_len]; exact hkl)] at hshk
      refine .append (n := rows.length) (kx := 1) (qx := some ⟨a1, 0, none⟩) (capx := 1) (news := [slv ql l.length cql]) el38 hT.row (fun g => g.cells (j := 1) rfl rfl rfl) rfl (by simp; unfold slv; cases ql <;> rfl) (fun h => by cases h) (by simp [maxLen]; omega) (by omega) (fun q3 k3 m3 hr3 hk3 _ => ?_)
      have hkT : ∀ b cur e, e ≠ 39 → m b = some (.cells cur e (0, 0)) → m3 b = m b := fun b cur e he hb => hk3 b (fun ⟨o, ho⟩ => by
        obtain ⟨cur', hcur'⟩ := hT.row.at_cells ho
        rw [hcur'] at hb; cases hb; exact absurd rfl he) (by rw [hb]; simp)
      have hNow : RowF m ql cql l := ⟨fun _ => hL, hL.cap_le, row_cap0 hL⟩
      refine .env (by (try simp only [liE, letsOf, letU, snd, List.append_nil]); rfl) (.again rfl ⟨n - 1, by omega, p2, n2, c2, x2, i + 1, q3, k3, rows ++ [⟨ql, cql, l⟩], ?_, by omega, ?_, by simp [hrl], ⟨?_, fun r hr => ?_⟩, fun hlt => ?_⟩)
      · (simp only [evE, liE, letsOf, letU, snd, Sh.uss, Sh.us, atAddr, map_add0, List.append_nil]); rw [add_i64 i (by omega)]; simp only [List.length_append, List.length_cons, List.length_nil]
      · rw [lvTab_take hi, List.map_append, hrd]
        simp only [List.map_cons, List.map_nil, LD.data, hdat]
      · rw [List.length_append, List.map_append]
        show Row m3 39 1 q3 k3 _ (_ ++ [slv ql l.length cql])
        exact hr3
      · rcases List.mem_append.1 hr with hr | hr
        · exact ⟨(hT.rows r hr).1.keepT fun b cur _ hb _ => hkT b cur 41 (by decide) hb, fun f hf => ((hT.rows r hr).2 f hf).keepT fun b cur hb => hkT b cur 31 (by decide) hb⟩
        · simp only [List.mem_cons, List.not_mem_nil, or_false] at hr
          subst hr
          exact ⟨hNow.keepT fun b cur _ hb _ => hkT b cur 41 (by decide) hb, fun f hf => (hwk f hf).keepT fun b cur hb => hkT b cur 31 (by decide) hb⟩
      · rcases Nat.lt_or_ge row i with h | h
        · exact hsh h
        · have : i = row := by omega
          subst this
          exact List.any_eq_false.2 fun x hx => by rw [hshk rfl x hx]; simp
  · have hln : (lvTab t (F.w.w.take nb) row).length = t.length := by simp [lvTab]
    rw [List.take_of_length_le (by omega)] at hrd
    rw [if_neg (by rw [hsh (by omega)]; simp)]
    exact ⟨qo, co, rows, rfl, hrd, hT⟩
end Go.Proofs.YtpbbnmjkbfbelaaDoor
