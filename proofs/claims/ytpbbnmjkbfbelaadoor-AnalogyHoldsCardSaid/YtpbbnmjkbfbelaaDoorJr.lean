/- Chapter 30: the endings of a paradigm. -/
import Derived.Test.YtpbbnmjkbfbelaaDoorJq
set_option linter.unusedSimpArgs false
set_option linter.unusedVariables false
namespace Go.Sy
open Go Go.RowKit
section
variable {P : Program} {c : Cx} {L : List Nat} {ρ : Env} {blks : List Blk} {m : Mem} {R : Value → HW → Prop} {Dn : Nat → List U → HW → Prop} {A : List (List U → HW → Prop)}
theorem DenM.loadWD0 {i : Nat} {len : IT} {k : Tree} (t : List WD) (hj : 0 < t.length) (hw : Good c L m → Cells (vw c L ρ blks m) (ρ.ptr i) (t.map WD.v)) (hk : DenM P R Dn k L (ρ ++ [.p t[0].p, .i t[0].w.length, .i t[0].cap]) c m A) (hn : len.eval ρ = (t.length : Int) := by rfl) :
    DenM P R Dn (.chk (.pick (.cmp .lss (.lit 0) len) (.some i) (.lit false)) (.load i (.lit 0) [.sl] blks k)) L ρ c m A := fun g => by
  obtain ⟨b, o, hpe⟩ := (hw g).some (i := 0) (by simp; omega)
  have h1 : (BT.pick (.cmp .lss (.lit 0) len) (.some i) (.lit false)).eval ρ = true := by
    simp only [BT.eval, IT.eval, hn, hpe, cm, pick_and]; simp; omega
  exact DenM.chk h1 (.loadS (t.map WD.v) 0 t[0].p t[0].w.length t[0].cap rfl (by simp [WD.v, hj]) hw hk) g
end
def knownF (t : List LD) (k : Nat) : List WD := t.filterMap fun r => (r.fs[k]?).bind fun f => if f.has then some f.w else none
def endN (h : List Snd) (l : List (List Snd)) : Nat := l.foldl (fun n w => min n (csl w h)) h.length
def endW : List (List Snd) → Nat
  | [] => 0
  | h :: l => endN h (h :: l)
def endK (t : List LD) (k : Nat) : Nat := endW ((knownF t k).map (·.w))
theorem endN_snoc {h : List Snd} {l : List (List Snd)} {i : Nat} (hi : i < l.length) : endN h (l.take (i + 1)) = min (endN h (l.take i)) (csl l[i] h) := by
  unfold endN
  rw [List.take_succ_eq_append_getElem hi, List.foldl_append]; rfl
theorem endW_at {l : List (List Snd)} (h : 0 < l.length) : endW l = endN l[0] l := by cases l with
  | nil => simp at h
  | cons x l => rfl
theorem csl_at {a b : List Snd} {j : Nat} (ha : j < a.length) (hb : j < b.length) : cpl (a.reverse.drop j) (b.reverse.drop j) = if a[a.length - 1 - j] = b[b.length - 1 - j] then 1 + cpl (a.reverse.drop (j + 1)) (b.reverse.drop (j + 1)) else 0 := by
  rw [cpl_drop (by simpa using ha) (by simpa using hb)]
  rw [List.getElem_reverse, List.getElem_reverse]
theorem csl_end {a b : List Snd} {j : Nat} (h : a.length ≤ j ∨ b.length ≤ j) : cpl (a.reverse.drop j) (b.reverse.drop j) = 0 := cpl_end (by simpa using h)
theorem knownF_snoc {t : List LD} {k i : Nat} (hi : i < t.length) (hk : k < t[i].fs.length) : knownF (t.take (i + 1)) k = knownF (t.take i) k ++ if t[i].fs[k].has then [t[i].fs[k].w] else [] := by
  unfold knownF
  rw [List.take_succ_eq_append_getElem hi, List.filterMap_append]
  congr 1
  simp only [List.filterMap_cons, List.filterMap_nil, List.getElem?_eq_getElem hk, Option.bind_some]
  cases t[i].fs[k].has <;> rfl
theorem knownF_mem {t : List LD} {k : Nat} {x : WD} (h : x ∈ knownF t k) : ∃ r ∈ t, ∃ f ∈ r.fs, f.w = x := by
  unfold knownF at h
  obtain ⟨r, hr, h2⟩ := List.mem_filterMap.1 h
  cases h3 : r.fs[k]? with
  | none => rw [h3] at h2; cases h2
  | some f =>
    rw [h3] at h2
    simp only [Option.bind_some] at h2
    split at h2
    · cases h2; exact ⟨r, hr, f, List.mem_of_getElem? h3, rfl⟩
    · cases h2
theorem knownF_len (t : List LD) (k : Nat) : (knownF t k).length ≤ t.length := List.length_filterMap_le _ _
theorem endN_le {h : List Snd} (l : List (List Snd)) : endN h l ≤ h.length := by
  unfold endN
  have : ∀ (l : List (List Snd)) (n : Nat), n ≤ h.length → l.foldl (fun n w => min n (csl w h)) n ≤ h.length := fun l => by
    induction l with
    | nil => exact fun n hn => hn
    | cons w l ih => intro n hn; exact ih _ (Nat.le_trans (Nat.min_le_left ..) hn)
  exact this l _ (Nat.le_refl _)
end Go.Sy
namespace Go.Proofs.YtpbbnmjkbfbelaaDoor
open Go Go.Sy Go.RowKit
set_option maxHeartbeats 2000000 in
theorem c_endings (p : Option Addr) (cp : Nat) (t : List LD) (n0 : Nat) (h0 : 0 < t.length) (hl : t.length ≤ 64) (hn0 : ∀ r ∈ t, r.fs.length = n0) (h16 : n0 ≤ 16) (hw : ∀ r ∈ t, ∀ f ∈ r.fs, f.w.w.length ≤ 32) :
    FnM Tryd.prog n_analogy_endings [slv p t.length cp] (fun R => TableAt R p t) fun v mq _ => ∃ qo co, v = slv qo n0 co ∧ Row mq 3 1 qo co n0 ((List.range n0).map fun k => .int .i64 (endK t k : Nat)) := by
  refine FnM.of S_analogy_endings mx [.p p, .i t.length, .i cp] rfl rfl fun c hp => .chk (by ((try simp only [evE, liE, letsOf, letU, snd]); (try simp only [cmE])); omega) (.no (by ((try simp only [evE, liE, letsOf, letU, snd]); (try simp only [cmE])); omega) ?_)
  have hn00 := hn0 _ (List.getElem_mem h0)
  refine .loadL0 t h0 (fun g => hp.1.mono g.R) (.env (by (try simp only [liE, letsOf, letU, snd, List.append_nil]); rfl) ?_)
  rw [hn00]
  refine .chk (by ((try simp only [evE, liE, letsOf, letU, snd]); (try simp only [cmE])); omega) (.make (z := .int .i64 0) (bytes := 8) n0 Tryd.underlying92 (by kernel_rfl) rfl (by omega) (by simp [maxLen]; omega) fun gb hgb hr => .env (by (try simp only [liE, letsOf, letU, snd, List.append_nil]); rfl) (.chk (by ((try simp only [evE, liE, letsOf, letU, snd]); (try simp only [cmE])); omega) ?_))
  generalize Mem.upd _ gb _ = m at hr ⊢
  refine .loop (fun n us mm => ∃ (k : Nat) (xs : List Int), us = [.i k] ∧ n + k = n0 ∧ xs.length = n0 ∧ (∀ j, j < n0 → xs[j]? = some (if j < k then ((endK t j : Nat) : Int) else 0)) ∧ Row mm 3 1 (some ⟨gb, 0, none⟩) n0 n0 (xs.map (.int .i64))) n0
    ⟨0, List.replicate n0 0, rfl, rfl, by simp, fun j hj => by simp [hj], by rw [List.map_replicate]; exact hr⟩ ?_
  clear hr
  rintro n _ m _ ⟨k, xs, rfl, hn, hxl, hx, hr⟩
  refine .env (by (try simp only [liE, letsOf, letU, snd, List.append_nil]); rfl) (.ite (fun h1 => .chk (by ((try simp only [evE, liE, letsOf, letU, snd]); (try simp only [cmE])); omega) ?_) (fun h1 => .ret rfl ⟨some ⟨gb, 0, none⟩, n0, rfl, ?_⟩)) <;> ((try simp only [evE, liE, letsOf, letU, snd] at h1); (try simp only [cmE] at h1))
  · have hk : k < n0 := by omega
    -- the words that are known
    refine .loop (fun n us mm => ∃ (i : Nat) (q : Option Addr) (cq : Nat) (l : List WD), us = [.p q, .i l.length, .i cq, .i i] ∧ n + i = t.length ∧ l = knownF (t.take i) k ∧ Row mm 22 1 q cq l.length (l.map WD.v) ∧ Row mm 3 1 (some ⟨gb, 0, none⟩) n0 n0 (xs.map (.int .i64))) t.length ⟨0, none, 0, [], rfl, rfl, rfl, Row.nil _ _ _, hr⟩ ?_
    clear hr
    rintro n1 _ m _ ⟨i, q, cq, l, rfl, hn1, hlk, hrl, hr⟩
    refine .env (by (try simp only [liE, letsOf, letU, snd, List.append_nil]); rfl) (.ite (fun h2 => ?_) (fun h2 => .chk (by ((try simp only [evE, liE, letsOf, letU, snd]); (try simp only [cmE])); omega) ?_)) <;> ((try simp only [evE, liE, letsOf, letU, snd] at h2); (try simp only [cmE] at h2))
    · have hi : i < t.length := by omega
      have hfl := hn0 _ (List.getElem_mem hi)
      have hki : k < t[i].fs.length := by omega
      have hpi := hp.2 _ (List.getElem_mem hi)
      have hll : l.length ≤ 64 := by rw [hlk]; have := knownF_len (t.take i) k; rw [List.length_take] at this; omega
      have hsn := knownF_snoc hi hki
      refine .loadLD t i hi (fun g => hp.1.mono g.R) (.env (by (try simp only [liE, letsOf, letU, snd, List.append_nil]); rfl) (.loadHas t[i].fs k hki (fun g => hpi.1.mono g.R) (.env (by (try simp only [liE, letsOf, letU, snd, List.append_nil]); rfl) ?_)))
      refine .join (fun us mm => ∃ (q : Option Addr) (cq : Nat) (l : List WD), us = [.p q, .i l.length, .i cq] ∧ l = knownF (t.take (i + 1)) k ∧ Row mm 22 1 q cq l.length (l.map WD.v) ∧ Row mm 3 1 (some ⟨gb, 0, none⟩) n0 n0 (xs.map (.int .i64))) (.ite (fun h3 => ?_) (fun h3 => .again rfl ⟨q, cq, l, (by (simp only [evE, liE, letsOf, letU, snd, Sh.uss, Sh.us, atAddr, map_add0, List.append_nil]) <;> rfl), ?_, hrl, hr⟩)) ?_
      · replace h3 : t[i].fs[k].has = true := h3
        rw [h3] at hsn
        refine .loadFW t[i].fs k hki (fun g => hpi.1.mono g.R) (.env (by (try simp only [liE, letsOf, letU, snd, List.append_nil]); rfl) (.alloc fun b0 => .append (n := l.length) (kx := 1) (qx := some ⟨b0, 0, none⟩) (capx := 1) (news := [t[i].fs[k].w.v]) el85 hrl (fun g => g.cells (j := 0) rfl rfl rfl) rfl (by simp; rfl) (fun h => by cases h) (by simp [maxLen]; omega) (by omega) (fun q3 k3 m3 hr3 hk3 _ => ?_)))
        refine .env (by (try simp only [liE, letsOf, letU, snd, List.append_nil]); rfl) (.again rfl ⟨q3, k3, l ++ [t[i].fs[k].w], ?_, ?_, ?_, ?_⟩)
        · (simp only [evE, liE, letsOf, letU, snd, Sh.uss, Sh.us, atAddr, map_add0, List.append_nil]); simp only [List.length_append, List.length_cons, List.length_nil]
        · rw [hsn, hlk]; rfl
        · rw [List.length_append, List.map_append]; exact hr3
        · refine hr.keep fun g hg hgn => ?_
          cases hg
          refine hk3 gb (fun ⟨o, ho⟩ => ?_) hgn
          obtain ⟨cur, hcur⟩ := hrl.at_cells ho
          obtain ⟨cur2, hcur2⟩ := hr.at_cells rfl
          rw [hcur] at hcur2; cases hcur2
      · replace h3 : t[i].fs[k].has = false := h3
        rw [h3] at hsn
        rw [hsn, hlk]; simp
      rintro _ m2 _ ⟨q2, cq2, l2, rfl, hl2, hrl2, hr2⟩
      refine .env (by (try simp only [liE, letsOf, letU, snd, List.append_nil]); rfl) (.again rfl ⟨n1 - 1, by omega, i + 1, q2, cq2, l2, ?_, by omega, hl2, hrl2, hr2⟩)
      (simp only [evE, liE, letsOf, letU, snd, Sh.uss, Sh.us, atAddr, map_add0, List.append_nil]); rw [add_i64 i (by omega)]
    · rw [List.take_of_length_le (by omega)] at hlk
      have hll : l.length ≤ 64 := by rw [hlk]; have := knownF_len t k; omega
      have hE : endK t k = endW (l.map (·.w)) := by unfold endK; rw [hlk]
      have hlm : ∀ x ∈ l, WordAt c.R x.p x.w ∧ x.w.length ≤ 32 := fun x hx => by
        rw [hlk] at hx
        obtain ⟨r, hr, f, hf, rfl⟩ := knownF_mem hx
        exact ⟨(hp.2 r hr).2 f hf, hw r hr f hf⟩
      refine .loop (fun n us mm => ∃ (i : Nat) (ys : List Int), us = [.i i] ∧ n + i = l.length ∧ ys.length = n0 ∧ (∀ j, j < n0 → j ≠ k → ys[j]? = xs[j]?) ∧ ys[k]? = some (if h : i = 0 ∨ l.length = 0 then (0 : Int) else ((endN (l[0]'(by omega)).w ((l.take i).map (·.w)) : Nat) : Int)) ∧ Row mm 22 1 q cq l.length (l.map WD.v) ∧ Row mm 3 1 (some ⟨gb, 0, none⟩) n0 n0 (ys.map (.int .i64))) l.length
        ⟨0, xs, rfl, rfl, hxl, fun _ _ _ => rfl, by rw [hx k hk]; simp, hrl, hr⟩ ?_
      clear hrl hr
      rintro n2 _ m _ ⟨i2, ys, rfl, hn2, hyl, hyo, hyk, hrl, hr⟩
      refine .env (by (try simp only [liE, letsOf, letU, snd, List.append_nil]); rfl) (.ite (fun h3 => ?_) (fun h3 => .again rfl ⟨n - 1, by omega, k + 1, ys, ?_, by omega, hyl, fun j hj => ?_, hr⟩)) <;> ((try simp only [evE, liE, letsOf, letU, snd] at h3); (try simp only [cmE] at h3))
      · have hi : i2 < l.length := by omega
        have hl0 : 0 < l.length := by omega
        have hwi := hlm _ (List.getElem_mem hi)
        have hw0 := hlm _ (List.getElem_mem hl0)
        refine .loadWD l i2 hi (fun g => hrl.reads g) (.env (by (try simp only [liE, letsOf, letU, snd, List.append_nil]); rfl) ?_)
        refine .loop (fun n us mm => ∃ j : Nat, us = [.i j] ∧ n + j = l[i2].w.length ∧ j ≤ l[0].w.length ∧ csl l[i2].w l[0].w = j + cpl (l[i2].w.reverse.drop j) (l[0].w.reverse.drop j) ∧ m = mm) l[i2].w.length ⟨0, rfl, rfl, Nat.zero_le _, by simp [csl], rfl⟩ ?_
        rintro n3 _ _ _ ⟨j, rfl, hn3, hj0, hcs, rfl⟩
        refine .env (by (try simp only [liE, letsOf, letU, snd, List.append_nil]); rfl) (.join (fun us mm => m = mm ∧ ∃ x : Bool, us = [.b x] ∧ (x = true ↔ ∃ (ha : j < l[i2].w.length) (hb : j < l[0].w.length), l[i2].w[l[i2].w.length - 1 - j] = l[0].w[l[0].w.length - 1 - j])) (.chk (by ((try simp only [evE, liE, letsOf, letU, snd]); (try simp only [cmE])); omega) (.ite (fun h4 => ?_) (fun h4 => .again rfl ⟨rfl, false, (by (simp only [evE, liE, letsOf, letU, snd, Sh.uss, Sh.us, atAddr, map_add0, List.append_nil]) <;> rfl), ?_⟩))) ?_)
        · ((try simp only [evE, liE, letsOf, letU, snd] at h4); (try simp only [cmE] at h4))
          refine .loadWD0 l hl0 (fun g => hrl.reads g) (.env (by (try simp only [liE, letsOf, letU, snd, List.append_nil]); rfl) (.chk (by ((try simp only [evE, liE, letsOf, letU, snd]); (try simp only [cmE])); omega) (.ite (fun h5 => .chk (by ((try simp only [evE, liE, letsOf, letU, snd]); (try simp only [cmE])); omega) ?_) (fun h5 => .again rfl ⟨rfl, false, (by (simp only [evE, liE, letsOf, letU, snd, Sh.uss, Sh.us, atAddr, map_add0, List.append_nil]) <;> rfl), ?_⟩))))
          · ((try simp only [evE, liE, letsOf, letU, snd] at h5); (try simp only [cmE] at h5))
            have ha : j < l[i2].w.length := by omega
            have hb : j < l[0].w.length := by omega
            have e01 : ar .sub .i64 (l[i2].w.length : Int) 1 = ((l[i2].w.length - 1 : Nat) : Int) := by rw [subI (by omega) (by omega)]; omega
            have e02 : ar .sub .i64 (l[0].w.length : Int) 1 = ((l[0].w.length - 1 : Nat) : Int) := by rw [subI (by omega) (by omega)]; omega
            have e1 : ar .sub .i64 (ar .sub .i64 (l[i2].w.length : Int) 1) (j : Int) = ((l[i2].w.length - 1 - j : Nat) : Int) := by rw [e01, subI (by omega) (by omega)]; omega
            have e2 : ar .sub .i64 (ar .sub .i64 (l[0].w.length : Int) 1) (j : Int) = ((l[0].w.length - 1 - j : Nat) : Int) := by rw [e02, subI (by omega) (by omega)]; omega
            refine .loadW l[i2].w (l[i2].w.length - 1 - j) (by omega) (fun g => hwi.1.mono g.R) ?_ (hI := (show ar .sub .i64 (ar .sub .i64 (l[i2].w.length : Int) 1) (j : Int) = _ from e1))
            refine .env (by (try simp only [liE, letsOf, letU, snd, List.append_nil]); rfl) (.loadWD0 l hl0 (fun g => hrl.reads g) (.env (by (try simp only [liE, letsOf, letU, snd, List.append_nil]); rfl) (.loadWD0 l hl0 (fun g => hrl.reads g) (.env (by (try simp only [liE, letsOf, letU, snd, List.append_nil]); rfl) (.chk (by ((try simp only [evE, liE, letsOf, letU, snd]); (try simp only [cmE])); omega) ?_)))))
            refine .loadW l[0].w (l[0].w.length - 1 - j) (by omega) (fun g => hw0.1.mono g.R) ?_ (hI := (show ar .sub .i64 (ar .sub .i64 (l[0].w.length : Int) 1) (j : Int) = _ from e2))
            refine .again rfl ⟨rfl, (bif cm .eql (l[i2].w[l[i2].w.length - 1 - j].1 : Int) (l[0].w[l[0].w.length - 1 - j].1 : Int) then cm .eql (l[i2].w[l[i2].w.length - 1 - j].2 : Int) (l[0].w[l[0].w.length - 1 - j].2 : Int) else false), rfl, ?_⟩
            rw [pick_and]
            simp only [cm, Bool.and_eq_true, beq_iff_eq, ha, hb, exists_true_left]
            exact snd_eq
          · ((try simp only [evE, liE, letsOf, letU, snd] at h5); (try simp only [cmE] at h5))
            simp only [Bool.false_eq_true, false_iff]
            rintro ⟨ha, hb, _⟩; omega
        · ((try simp only [evE, liE, letsOf, letU, snd] at h4); (try simp only [cmE] at h4))
          simp only [Bool.false_eq_true, false_iff]
          rintro ⟨ha, hb, _⟩; omega
        rintro _ _ _ ⟨rfl, x, rfl, hxx⟩
        refine .env (by (try simp only [liE, letsOf, letU, snd, List.append_nil]); rfl) (.ite (fun h4 => .again rfl ⟨n3 - 1, ?_, j + 1, ?_, ?_, ?_, ?_, rfl⟩) (fun h4 => ?_))
        · obtain ⟨ha, hb, _⟩ := hxx.1 h4; omega
        · obtain ⟨ha, hb, _⟩ := hxx.1 h4
          (simp only [evE, liE, letsOf, letU, snd, Sh.uss, Sh.us, atAddr, map_add0, List.append_nil]); rw [add_i64 j (by omega)]
        · obtain ⟨ha, hb, _⟩ := hxx.1 h4; omega
        · obtain ⟨ha, hb, _⟩ := hxx.1 h4; omega
        · obtain ⟨ha, hb, e⟩ := hxx.1 h4
          rw [hcs, csl_at ha hb, if_pos e]; omega
        replace h4 : x = false := h4
        subst h4
        have hcj : csl l[i2].w l[0].w = j := by
          rw [hcs]
          rcases Nat.lt_or_ge j l[i2].w.length with ha | ha
          · rcases Nat.lt_or_ge j l[0].w.length with hb | hb
            · rw [csl_at ha hb, if_neg fun e => by cases hxx.2 ⟨ha, hb, e⟩]; omega
            · rw [csl_end (.inr hb)]; omega
          · rw [csl_end (.inl ha)]; omega
        have hstep : endN l[0].w ((l.take (i2 + 1)).map (·.w)) = min (endN l[0].w ((l.take i2).map (·.w))) j := by
          rw [List.map_take, List.map_take, endN_snoc (by simpa using hi)]
          simp only [List.getElem_map]
          rw [hcj]
        have hE0 : i2 = 0 → endN l[0].w ((l.take i2).map (·.w)) = l[0].w.length := by rintro rfl; rfl
        have hyk' : i2 ≠ 0 → ys[k]? = some ((endN l[0].w ((l.take i2).map (·.w)) : Nat) : Int) := fun h => by rw [hyk, dif_neg (by omega)]
        generalize endN l[0].w ((l.take i2).map (·.w)) = E at *
        refine .join (fun us mm => m = mm ∧ us = [.b (decide (i2 = 0 ∨ j < E))]) (.ite (fun h5 => .again rfl ⟨rfl, ?_⟩) (fun h5 => ?_)) ?_
        · ((try simp only [evE, liE, letsOf, letU, snd] at h5); (try simp only [cmE] at h5))
          (simp only [evE, liE, letsOf, letU, snd, Sh.uss, Sh.us, atAddr, map_add0, List.append_nil])
          have : i2 = 0 ∨ j < E := .inl (by omega)
          rw [decide_eq_true this]
        · ((try simp only [evE, liE, letsOf, letU, snd] at h5); (try simp only [cmE] at h5))
          have h6 : i2 ≠ 0 := by omega
          refine .elem1 (.int .i64 (E : Int)) (ys.map (.int .i64)) k n0 rfl rfl hk (fun g => hr.reads g) (by rw [List.getElem?_map, hyk' h6]; rfl) (.again rfl ⟨rfl, ?_⟩)
          show [U.b (cm .lss (j : Int) (E : Int))] = _
          simp [cm, h6]
        rintro _ _ _ ⟨rfl, rfl⟩
        refine .env (by (try simp only [liE, letsOf, letU, snd, List.append_nil]); rfl) (.join (fun us mm => us = [] ∧ ∃ ys' : List Int, ys'.length = n0 ∧ (∀ j', j' < n0 → j' ≠ k → ys'[j']? = xs[j']?) ∧ ys'[k]? = some ((min E j : Nat) : Int) ∧ Row mm 22 1 q cq l.length (l.map WD.v) ∧ Row mm 3 1 (some ⟨gb, 0, none⟩) n0 n0 (ys'.map (.int .i64))) (.ite (fun h5 => ?_) (fun h5 => .again rfl ⟨rfl, ys, hyl, hyo, ?_, hrl, hr⟩)) ?_)
        · replace h5 := of_decide_eq_true h5
          refine .storeR k hk hr rfl rfl rfl (fun m' g hq hr' ho => .again rfl ⟨rfl, ys.set k j, by rw [List.length_set]; exact hyl, fun j' hj' hne => ?_, ?_, hrl.keep fun g2 hg2 _ => ?_, ?_⟩)
          · rw [List.getElem?_set, if_neg (fun e => hne e.symm)]; exact hyo j' hj' hne
          · rw [List.getElem?_set, if_pos rfl, if_pos (by omega)]
            have : min E j = j := by
              rcases h5 with h | h
              · rw [hE0 h]; omega
              · omega
            rw [this]
          · refine ho g2 fun e => ?_
            cases hq
            obtain ⟨cur, hcur⟩ := hrl.at_cells hg2
            obtain ⟨cur2, hcur2⟩ := hr.at_cells rfl
            rw [e, hcur2] at hcur; cases hcur
          · rw [List.map_set]; exact hr'
        · replace h5 := of_decide_eq_false h5
          rw [hyk' (by omega)]
          have : min E j = E := by omega
          rw [this]
        rintro _ m2 _ ⟨rfl, ys2, hy1, hy2, hy3, hy4, hy5⟩
        refine .env (by (try simp only [liE, letsOf, letU, snd, List.append_nil]); rfl) (.again rfl ⟨n2 - 1, by omega, i2 + 1, ys2, ?_, by omega, hy1, hy2, ?_, hy4, hy5⟩)
        · (simp only [evE, liE, letsOf, letU, snd, Sh.uss, Sh.us, atAddr, map_add0, List.append_nil]); rw [add_i64 i2 (by omega)]
        · rw [hy3, dif_neg (by omega), hstep]
      · (simp only [evE, liE, letsOf, letU, snd, Sh.uss, Sh.us, atAddr, map_add0, List.append_nil]); rw [add_i64 k (by omega)]
      · by_cases e : j = k
        · subst e
          rw [hyk, if_pos (by omega), hE]
          by_cases h4 : l.length = 0
          · rw [dif_pos (.inr h4)]
            have : l = [] := List.length_eq_zero_iff.1 h4
            subst this; rfl
          · rw [dif_neg (by omega), List.take_of_length_le (show l.length ≤ i2 by omega), endW_at (by simp; omega)]
            simp
        · rw [hyo j hj e, hx j hj]
          by_cases h4 : j < k
          · rw [if_pos h4, if_pos (by omega)]
          · rw [if_neg h4, if_neg (by omega)]
  · have : xs.map (Value.int .i64) = (List.range n0).map fun k => .int .i64 (endK t k : Nat) := by
      apply List.ext_getElem?
      intro j
      rw [List.getElem?_map, List.getElem?_map]
      rcases Nat.lt_or_ge j n0 with hj | hj
      · rw [hx j hj, if_pos (by omega), List.getElem?_range hj]; rfl
      · rw [List.getElem?_eq_none (by omega), List.getElem?_eq_none (by simpa using hj)]; rfl
    rw [← this]; exact hr
end Go.Proofs.YtpbbnmjkbfbelaaDoor
