/- Chapter 19: slices.Repeat of rows and of forms. -/
import Derived.Test.YthabfpagilbplaaDoorMb
set_option linter.unusedSimpArgs false
set_option linter.unusedVariables false
namespace Go.Sy
open Go Go.RowKit
section
variable {P : Program} {c : Cx} {L : List Nat} {ρ : Env} {blks : List Blk} {m : Mem} {R : Value → HW → Prop} {Dn : Nat → List U → HW → Prop} {A : List (List U → HW → Prop)}
theorem DenM.makeN {t e : TypeId} {bytes size : Nat} {z : Value} {l d : IT} {k : Tree} (n : Nat) (cs : List Value) (_ht : P.underlying t = some (.slice e)) (hinfo : (P.info? e).map (fun i => (i.zero, i.size, i.bytes)) = some (some z, size, bytes)) (hcs : (madeCells z.cells (n * size)).toList = cs) (hbytes : bytes * n ≤ 281474976710656) (h63 : n ≤ maxLen)
    (hk : ∀ g, m g = none → Row (m.upd g (.cells (madeCells z.cells (n * size)) e (0, 0))) e size (some ⟨g, 0, none⟩) n n cs → DenM P R Dn k L (ρ ++ [.p (some ⟨g, 0, none⟩), .i n, .i n]) c (m.upd g (.cells (madeCells z.cells (n * size)) e (0, 0))) A)
    (hl : Value.int .i64 (l.eval ρ) = .int .i64 n := by rfl) (hc : Value.int .i64 (d.eval ρ) = .int .i64 n := by rfl) :
    DenM P R Dn (.makev e bytes l d k) L ρ c m A := .makev n n (by simpa using hl) (by simpa using hc) (Nat.le_refl _) hbytes (by simpa [maxLen] using h63) fun g hmn _ _ => by
  have eb : (bigCells P e (some n)).toArray = madeCells z.cells (n * size) := by
    cases hi : P.info? e with
    | none => rw [hi] at hinfo; cases hinfo
    | some i =>
      rw [hi] at hinfo
      simp only [Option.map_some, Option.some.injEq, Prod.mk.injEq] at hinfo
      simp [bigCells, zeroCells, sizeT, hi, hinfo.1, hinfo.2.1]
  rw [eb]
  have hcl : cs.length = n * size := by rw [← hcs]; simp [size_madeCells]
  exact hk g hmn ⟨hcl, .inr ⟨g, _, rfl, Mem.upd_same _ _ _, Nat.le_refl _, h63, by rw [size_madeCells], by rw [hcs, List.take_of_length_le (by omega)]⟩⟩
end
theorem fcells_one (l : List FD) : ∀ u ∈ fcells l, u.oneCell' = true := fun u hu => by
  obtain ⟨x, _, hx⟩ := List.mem_flatMap.1 hu
  simp only [List.mem_cons, List.not_mem_nil, or_false] at hx
  rcases hx with rfl | rfl
  · rfl
  · unfold WD.v slv; cases x.w.p <;> rfl
end Go.Sy
namespace Go.Proofs.YthabfpagilbplaaDoor
open Go Go.Sy Go.RowKit
theorem c_repL (p : Option Addr) (cp n : Nat) (r : IR) (hp0 : p ≠ none) (hn : 0 < n) (hn2 : n ≤ 65536) : FnM Tryd.prog n_slices_Repeat_____int___int_ [slv p 1 cp, .int .i64 n] (fun R => Cells R p [r.v]) fun w mq _ => ∃ q, w = slv q n n ∧ Row mq 30 1 q n n ((List.replicate n r).map IR.v) := by
  refine (repeat_of (sz := 1) (bytes := 24) S_slices_Repeat_____int___int_ elT p cp 1 n [r.v] hp0 (by omega) hn (by omega) rfl (by simp; unfold IR.v slv; cases r.p <;> rfl) ?_).mono (fun _ h => h) ?_
  · intro c L ρ m R Dn A lv cv kt N hN hk hl hc
    exact .make (z := .slice none 0 0) (bytes := 24) N Tryd.underlying60 (by kernel_rfl) rfl (by omega) (by simp [maxLen]; omega) (fun g hg hrow => hk g _ hg (by simp [size_madeCells])) hl hc
  · rintro w mq V ⟨g, ys, rfl, hr, hyl, hys⟩
    rw [Nat.one_mul] at *
    refine ⟨some ⟨g, 0, none⟩, rfl, ?_⟩
    have e : ys = (List.replicate n r).map IR.v := by
      apply List.ext_getElem?
      intro u
      rcases Nat.lt_or_ge u n with h | h
      · rw [hys u (by omega), Nat.mod_one]
        simp [List.getElem?_replicate, h]
      · rw [List.getElem?_eq_none (by omega), List.getElem?_eq_none (by simp; omega)]
    rw [← e]
    exact hr
theorem alt_cells (p : Option Addr) (cp : Nat) : ∀ u, u < 32 → (fcells (alt p cp))[u]? = (fcells [⟨true, ⟨p, cp, List.replicate 32 (7, 0)⟩⟩, ⟨true, ⟨none, 0, []⟩⟩])[u % 4]? := fun u hu => by
  have hl : (alt p cp).length = 16 := by simp [alt]
  have hj : u / 2 < (alt p cp).length := by omega
  obtain ⟨h1, h2⟩ := fcells_at (alt p cp) (u / 2) hj
  have e : (alt p cp)[u / 2] = altF p cp (u / 2) := by simp [alt]
  rw [e] at h1 h2
  have key : ∀ v, v < 4 → u % 4 = v → (fcells (alt p cp))[u]? = (fcells [⟨true, ⟨p, cp, List.replicate 32 (7, 0)⟩⟩, ⟨true, ⟨none, 0, []⟩⟩])[v]? := fun v hv he => by
    match v, hv with
    | 0, _ => rw [show u = u / 2 * 2 by omega, h1]; unfold altF; rw [if_pos (by omega)]; rfl
    | 1, _ => rw [show u = u / 2 * 2 + 1 by omega, h2]; unfold altF; rw [if_pos (by omega)]; rfl
    | 2, _ => rw [show u = u / 2 * 2 by omega, h1]; unfold altF; rw [if_neg (by omega)]; rfl
    | 3, _ => rw [show u = u / 2 * 2 + 1 by omega, h2]; unfold altF; rw [if_neg (by omega)]; rfl
  exact key _ (by omega) rfl
theorem c_repF (q : Option Addr) (cq : Nat) (p : Option Addr) (cp : Nat) (hp0 : q ≠ none) : FnM Tryd.prog n_slices_Repeat___api_Form_api_Form_ [slv q 2 cq, .int .i64 (8 : Nat)] (fun R => Cells R q (fcells [⟨true, ⟨p, cp, List.replicate 32 (7, 0)⟩⟩, ⟨true, ⟨none, 0, []⟩⟩])) fun w mq _ => ∃ q, w = slv q 16 16 ∧ Row mq 50 2 q 16 16 (fcells (alt p cp)) := by
  refine (repeat_of (sz := 2) (bytes := 32) S_slices_Repeat___api_Form_api_Form_ elF q cq 2 8 _ hp0 (by omega) (by omega) (by omega) rfl (fcells_one _) ?_).mono (fun _ h => h) ?_
  · intro c L ρ m R Dn A lv cv kt N hN hk hl hc
    exact .makeN (z := .agg #[.bool false, .slice none 0 0]) (bytes := 32) (size := 2) N _ Tryd.underlying22 (by kernel_rfl) rfl (by omega) (by simp [maxLen]; omega) (fun g hg hrow => hk g _ hg (by simp [size_madeCells])) hl hc
  · rintro w mq V ⟨g, ys, rfl, hr, hyl, hys⟩
    refine ⟨some ⟨g, 0, none⟩, rfl, ?_⟩
    have e : ys = fcells (alt p cp) := by
      apply List.ext_getElem?
      intro u
      rcases Nat.lt_or_ge u 32 with h | h
      · rw [hys u (by omega), alt_cells p cp u h]
      · rw [List.getElem?_eq_none (by omega), List.getElem?_eq_none (by rw [fcells_len]; simp [alt]; omega)]
    rw [← e]
    exact hr
end Go.Proofs.YthabfpagilbplaaDoor
