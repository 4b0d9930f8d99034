/- Chapter 30: whether two paradigms are the same; words out of strings. -/
import Derived.Test.YtpbbnmjkbfbelaaDoorJu
import Derived.Laws.Strings
set_option linter.unusedSimpArgs false
set_option linter.unusedVariables false
namespace Go.Sy
open Go Go.RowKit
theorem RowF.reads {m : Mem} {q : Option Addr} {cap : Nat} {fs : List FD} (h : RowF m q cap fs) {c : Cx} {L : List Nat} {ρ : Env} {blks : List Blk} (g : Good c L m) : Cells (vw c L ρ blks m) q (fcells fs) := by
  by_cases hw : fs = []
  · rw [hw]; exact fun i x hx => by simp [fcells] at hx
  · exact (h.row hw).reads g
theorem TabIn.reads {m : Mem} {q : Option Addr} {cq : Nat} {rows : List LD} (h : TabIn m q cq rows) {c : Cx} {L : List Nat} {ρ : Env} {blks : List Blk} (g : Good c L m) : TableAt (vw c L ρ blks m) q rows :=
  ⟨h.row.reads g, fun r hr => ⟨(h.rows r hr).1.reads g, fun f hf => ((h.rows r hr).2 f hf).reads g⟩⟩
def spellB (b : UInt8) : Snd := if b = 112 then (1, 2) else if b = 97 then (2, 1) else if b = 116 then (4, 0) else if b = 105 then (6, 1) else (0, 4)
def spellW (bs : List UInt8) : List Snd := bs.map spellB
def strV (bs : List UInt8) : Value := .string ⟨bs.toArray⟩
theorem eq_of_all {α : Type} {l l' : List α} (hl : l.length = l'.length) (h : ∀ i (hi : i < l.length) (hi' : i < l'.length), l[i] = l'[i]) : l = l' := List.ext_getElem hl h
end Go.Sy
namespace Go.Proofs.YtpbbnmjkbfbelaaDoor
open Go Go.Sy Go.RowKit
theorem c_sameT (p q : Option Addr) (cp cq : Nat) (t u : List LD) (hl : t.length < 2 ^ 62) (hf : ∀ r ∈ t, r.fs.length < 2 ^ 62 ∧ ∀ f ∈ r.fs, f.w.w.length < 2 ^ 62) : RetP Tryd.prog n_ref30_Same [slv p t.length cp, slv q u.length cq] (fun R => TableAt R p t ∧ TableAt R q u) (.bool (decide (t.map LD.data = u.map LD.data))) := by
  refine Fn.of S_ref30_Same mx [.p p, .i t.length, .i cp, .p q, .i u.length, .i cq] rfl rfl fun c hp => .chk (by ((try simp only [evE, liE, letsOf, letU, snd]); (try simp only [cmE])); omega) (.chk (by ((try simp only [evE, liE, letsOf, letU, snd]); (try simp only [cmE])); omega) (.ite (fun h1 => .ret rfl ?_) (fun h1 => ?_))) <;> ((try simp only [evE, liE, letsOf, letU, snd] at h1); (try simp only [cmE] at h1))
  · have : ¬ t.map LD.data = u.map LD.data := fun h => by have := congrArg List.length h; simp at this; omega
    rw [decide_eq_false this]; rfl
  have htu : t.length = u.length := by omega
  refine .loop (fun n us _ => ∃ (e : Bool) (i : Nat), us = [.b e, .i i] ∧ n + i = t.length ∧ ∀ k (hk : k < t.length) (hk' : k < u.length), k < i → t[k].data = u[k].data) t.length ⟨false, 0, rfl, rfl, fun k _ _ h => by omega⟩ ?_
  rintro n _ m _ ⟨e, i, rfl, hn, hb⟩
  refine .env (by (try simp only [liE, letsOf, letU, snd, List.append_nil]); rfl) (.chk (by ((try simp only [evE, liE, letsOf, letU, snd]); (try simp only [cmE])); omega) (.ite (fun h2 => ?_) (fun h2 => .ret rfl ?_))) <;> ((try simp only [evE, liE, letsOf, letU, snd] at h2); (try simp only [cmE] at h2))
  · have hi : i < t.length := by omega
    have hi' : i < u.length := by omega
    have hfi := hf _ (List.getElem_mem hi)
    have hpi := hp.1.2 _ (List.getElem_mem hi)
    have hqi := hp.2.2 _ (List.getElem_mem hi')
    have hno : t[i].data ≠ u[i].data → ¬ t.map LD.data = u.map LD.data := fun h h2 => h (by
      have h3 : (t.map LD.data)[i]? = (u.map LD.data)[i]? := by rw [h2]
      rw [List.getElem?_map, List.getElem?_map, List.getElem?_eq_getElem hi, List.getElem?_eq_getElem hi'] at h3
      exact Option.some.inj h3)
    refine .loadLD t i hi (fun g => hp.1.1.mono g.R) (.env (by (try simp only [liE, letsOf, letU, snd, List.append_nil]); rfl) (.chk (by ((try simp only [evE, liE, letsOf, letU, snd]); (try simp only [cmE])); omega) (.loadLD u i hi' (fun g => hp.2.1.mono g.R) (.env (by (try simp only [liE, letsOf, letU, snd, List.append_nil]); rfl) (.chk (by ((try simp only [evE, liE, letsOf, letU, snd]); (try simp only [cmE])); omega) (.ite (fun h3 => .ret rfl ?_) (fun h3 => ?_))))))) <;> ((try simp only [evE, liE, letsOf, letU, snd] at h3); (try simp only [cmE] at h3))
    · have : t[i].data ≠ u[i].data := fun h => by have := congrArg List.length h; simp [LD.data] at this; omega
      rw [decide_eq_false (hno this)]; rfl
    have hll : t[i].fs.length = u[i].fs.length := by omega
    refine .loop (fun n us _ => ∃ (e : Bool) (k : Nat), us = [.b e, .i k] ∧ n + k = t[i].fs.length ∧ ∀ j (hj : j < t[i].fs.length) (hj' : j < u[i].fs.length), j < k → t[i].fs[j].data = u[i].fs[j].data) t[i].fs.length ⟨e, 0, rfl, rfl, fun k _ _ h => by omega⟩ ?_
    rintro n1 _ m _ ⟨e, k, rfl, hn1, hb1⟩
    refine .env (by (try simp only [liE, letsOf, letU, snd, List.append_nil]); rfl) (.loadLD t i hi (fun g => hp.1.1.mono g.R) (.env (by (try simp only [liE, letsOf, letU, snd, List.append_nil]); rfl) (.chk (by ((try simp only [evE, liE, letsOf, letU, snd]); (try simp only [cmE])); omega) (.ite (fun h4 => ?_) (fun h4 => .again rfl ⟨n - 1, by omega, e, i + 1, ?_, by omega, fun j hj hj' hji => ?_⟩))))) <;> ((try simp only [evE, liE, letsOf, letU, snd] at h4); (try simp only [cmE] at h4))
    · have hk : k < t[i].fs.length := by omega
      have hk' : k < u[i].fs.length := by omega
      have hno2 : t[i].fs[k].data ≠ u[i].fs[k].data → t[i].data ≠ u[i].data := fun h h2 => h (by
        have h3 : t[i].data[k]? = u[i].data[k]? := by rw [h2]
        unfold LD.data at h3
        rw [List.getElem?_map, List.getElem?_map, List.getElem?_eq_getElem hk, List.getElem?_eq_getElem hk'] at h3
        exact Option.some.inj h3)
      refine .loadLD t i hi (fun g => hp.1.1.mono g.R) (.env (by (try simp only [liE, letsOf, letU, snd, List.append_nil]); rfl) (.loadHas t[i].fs k hk (fun g => hpi.1.mono g.R) (.env (by (try simp only [liE, letsOf, letU, snd, List.append_nil]); rfl) (.loadLD u i hi' (fun g => hp.2.1.mono g.R) (.env (by (try simp only [liE, letsOf, letU, snd, List.append_nil]); rfl) (.loadHas u[i].fs k hk' (fun g => hqi.1.mono g.R) (.env (by (try simp only [liE, letsOf, letU, snd, List.append_nil]); rfl) (.ite (fun h5 => .ret rfl ?_) (fun h5 => ?_)))))))))
      · replace h5 : (!(t[i].fs[k].has == u[i].fs[k].has)) = true := h5
        have : t[i].fs[k].data ≠ u[i].fs[k].data := fun h => by
          have : t[i].fs[k].has = u[i].fs[k].has := congrArg Prod.fst h
          rw [this] at h5; simp at h5
        rw [decide_eq_false (hno (hno2 this))]; rfl
      replace h5 : (!(t[i].fs[k].has == u[i].fs[k].has)) = false := h5
      have h5' : t[i].fs[k].has = u[i].fs[k].has := by simpa using h5
      refine .loadLD t i hi (fun g => hp.1.1.mono g.R) (.env (by (try simp only [liE, letsOf, letU, snd, List.append_nil]); rfl) (.loadFW t[i].fs k hk (fun g => hpi.1.mono g.R) (.env (by (try simp only [liE, letsOf, letU, snd, List.append_nil]); rfl) (.loadLD u i hi' (fun g => hp.2.1.mono g.R) (.env (by (try simp only [liE, letsOf, letU, snd, List.append_nil]); rfl) (.loadFW u[i].fs k hk' (fun g => hqi.1.mono g.R) (.env (by (try simp only [liE, letsOf, letU, snd, List.append_nil]); rfl) (.callV (c_refEqual t[i].fs[k].w.p u[i].fs[k].w.p t[i].fs[k].w.cap u[i].fs[k].w.cap t[i].fs[k].w.w u[i].fs[k].w.w (hfi.2 _ (List.getElem_mem hk))) (fun g => ⟨(hpi.2 _ (List.getElem_mem hk)).mono g.R, (hqi.2 _ (List.getElem_mem hk')).mono g.R⟩) (.env (by (try simp only [liE, letsOf, letU, snd, List.append_nil]); rfl) (.ite (fun h6 => .ret rfl ?_) (fun h6 => .again rfl ⟨n1 - 1, by omega, e, k + 1, ?_, by omega, fun j hj hj' hjk => ?_⟩)))))))))))
      · replace h6 : (!decide (t[i].fs[k].w.w = u[i].fs[k].w.w)) = true := h6
        have : t[i].fs[k].data ≠ u[i].fs[k].data := fun h => by
          have : t[i].fs[k].w.w = u[i].fs[k].w.w := congrArg Prod.snd h
          rw [this] at h6; simp at h6
        rw [decide_eq_false (hno (hno2 this))]; rfl
      · (simp only [evE, liE, letsOf, letU, snd, Sh.uss, Sh.us, atAddr, map_add0, List.append_nil]); rw [add_i64 k (by omega)]
      · replace h6 : (!decide (t[i].fs[k].w.w = u[i].fs[k].w.w)) = false := h6
        rcases Nat.lt_or_ge j k with h | h
        · exact hb1 j hj hj' h
        · have : j = k := by omega
          subst this
          exact Prod.ext h5' (show t[i].fs[j].w.w = u[i].fs[j].w.w by simpa using h6)
    · (simp only [evE, liE, letsOf, letU, snd, Sh.uss, Sh.us, atAddr, map_add0, List.append_nil]); rw [add_i64 i (by omega)]
    · rcases Nat.lt_or_ge j i with h | h
      · exact hb j hj hj' h
      · have : j = i := by omega
        subst this
        unfold LD.data
        exact eq_of_all (by simpa using hll) fun k hk hk' => by
          rw [List.getElem_map, List.getElem_map]
          exact hb1 k (by simpa using hk) (by simpa using hk') (by simp at hk; omega)
  · have : t.map LD.data = u.map LD.data := eq_of_all (by simpa using htu) fun k hk hk' => by
      rw [List.getElem_map, List.getElem_map]
      exact hb k (by simpa using hk) (by simpa using hk') (by simp at hk; omega)
    rw [decide_eq_true this]; rfl
end Go.Proofs.YtpbbnmjkbfbelaaDoor
