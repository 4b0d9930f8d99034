/- Chapter 18: the sounds of a row are the word. -/
import Derived.Test.YtialbhieaipcgaaDoorYd
import Derived.Test.YtialbhieaipcgaaDoorYg
import Derived.Test.YtialbhieaipcgaaDoorTcRows
set_option linter.unusedSimpArgs false
set_option linter.unusedVariables false
namespace Go.Sy
open Go Go.RowKit
section
variable {P : Program} {c : Cx} {L : List Nat} {ρ : Env} {blks : List Blk} {m : Mem} {R : Value → HW → Prop} {Dn : Nat → List U → HW → Prop} {A : List (List U → HW → Prop)}
/-- A cell's kind. -/
theorem DenM.loadCk {i : Nat} {I len : IT} {k : Tree} (l : List CE) (j : Nat) (hj : j < l.length) (hw : Good c L m → Cells (vw c L ρ blks m) (ρ.ptr i) (ccells l)) (hk : DenM P R Dn k L (ρ ++ [.i l[j].1]) c m A) (hI : I.eval ρ = (j : Int) := by rfl) (hn : len.eval ρ = (l.length : Int) := by rfl) :
    DenM P R Dn (.chk (.pick (.cmp .geq I (.lit 0)) (.pick (.cmp .lss I len) (.some i) (.lit false)) (.lit false)) (.chk (.pick (.cmp .geq (.off I 3 (.lit 0)) (.lit 0)) (.some i) (.lit false)) (.load i (.off I 3 (.lit 0)) [(.int .i64)] blks k))) L ρ c m A := fun g => by
  obtain ⟨b, o, hpe⟩ := (hw g).some (i := j * 3) (by rw [ccells_len]; omega)
  refine (DenM.chk ?_ (DenM.chk ?_ (DenM.load1 (.int .i64 l[j].1) (ρ.ptr i) (ccells l) (j * 3) rfl ?_ hw ?_ hk rfl ?_))) g
  · simp only [BT.eval, IT.eval, hI, hn, hpe, cm, pick_and]; simp; omega
  · simp only [BT.eval, IT.eval, hI, hpe, cm, pick_and]; simp; omega
  · simp only [IT.eval, hI]; simp
  · exact ccells_at l hj 0 (by decide)
  · simp only [Sh.freshs, Sh.fresh, SV.dens, SV.den, IT.eval, letU, int_at]
/-- A cell's sound. -/
theorem DenM.loadCs {i : Nat} {I len : IT} {k : Tree} (l : List CE) (j : Nat) (hj : j < l.length) (hw : Good c L m → Cells (vw c L ρ blks m) (ρ.ptr i) (ccells l)) (hk : DenM P R Dn k L (ρ ++ [.i (l[j].2.1 : Int), .i (l[j].2.2 : Int)]) c m A) (hI : I.eval ρ = (j : Int) := by rfl) (hn : len.eval ρ = (l.length : Int) := by rfl) :
    DenM P R Dn (.chk (.pick (.cmp .geq I (.lit 0)) (.pick (.cmp .lss I len) (.some i) (.lit false)) (.lit false)) (.chk (.pick (.cmp .geq (.off I 3 (.lit 0)) (.lit 0)) (.some i) (.lit false)) (.load i (.off (.lit 1) 1 (.off I 3 (.lit 0))) [(.int .u32), (.int .u32)] blks k))) L ρ c m A := fun g => by
  obtain ⟨b, o, hpe⟩ := (hw g).some (i := j * 3) (by rw [ccells_len]; omega)
  refine (DenM.chk ?_ (DenM.chk ?_ (DenM.loadC [.i (l[j].2.1 : Int), .i (l[j].2.2 : Int)] (ρ.ptr i) (ccells l) (j * 3 + 1) rfl ?_ rfl hw (by rw [ccells_len]; omega) (fun q v hv => ?_) hk))) g
  · simp only [BT.eval, IT.eval, hI, hn, hpe, cm, pick_and]; simp; omega
  · simp only [BT.eval, IT.eval, hI, hpe, cm, pick_and]; simp; omega
  · simp only [IT.eval, hI]; simp
  · simp only [Sh.freshs, Sh.fresh, SV.dens, SV.den, IT.eval, int_at, env_int_at1] at hv
    match q, hv with
    | 0, hv => simp at hv; rw [← hv]; exact ccells_at l hj 1 (by decide)
    | 1, hv => simp at hv; rw [← hv]; exact ccells_at l hj 2 (by decide)
    | q + 2, hv => simp at hv
end
theorem cellsA_ok {W : List (List Snd)} {cols : List (List Int)} (h : checkA W cols = 0) : cellsA W cols = (cols.map (colC W), 0) := by unfold cellsA; rw [if_neg (by simp [h])]
theorem rowCA_ok {W : List (List Snd)} {cols : List (List Int)} {k : Nat} (h : checkA W cols = 0) (hk : k < W.length) : rowCA W cols k = (rowC W cols k, 0) := by
  unfold rowCA; rw [if_neg (by simp [h]), if_neg (by omega), Int.toNat_natCast]
theorem rowC_at (W : List (List Snd)) {cols : List (List Int)} (k : Nat) {i : Nat} (hi : i < cols.length) : (rowC W cols k)[i]'(by rw [rowC_len]; exact hi) = cellE (W.getD k []) (labAt cols[i] k) := by
  unfold rowC; rw [List.getElem_map]
/-- How many sounds a row has ahead of a column. -/
def cntR (cols : List (List Int)) (k i : Nat) : Int := (rowGo 0 (rowOf (cols.take i) k)).getD 0
theorem cntR_is {W : List (List Snd)} {cols : List (List Int)} (hal : isAl W cols = true) {k i : Nat} (hk : k < W.length) (hi : i < cols.length) : cntR cols k 0 = 0 ∧ cntR cols k cols.length = wl W k ∧
    ((labAt cols[i] k = -1 ∧ cntR cols k (i + 1) = cntR cols k i) ∨ (labAt cols[i] k = cntR cols k i ∧ cntR cols k (i + 1) = cntR cols k i + 1 ∧ 0 ≤ cntR cols k i ∧ cntR cols k i < wl W k)) := by
  have hrow := (isAl_of hal).2 k hk
  refine ⟨rfl, by unfold cntR; rw [List.take_length, hrow]; rfl, ?_⟩
  cases he : rowGo 0 (rowOf (cols.take i) k) with
  | none => rw [rowGo_none he] at hrow; cases hrow
  | some x =>
    have hs := rowGo_step hi he
    have hci : cntR cols k i = x := by unfold cntR; rw [he]; rfl
    have hx := (rowGo_bound he).1
    rw [hci]
    by_cases h1 : labAt cols[i] k = -1
    · rw [if_pos h1] at hs
      exact .inl ⟨h1, by unfold cntR; rw [hs]; rfl⟩
    · rw [if_neg h1] at hs
      by_cases h2 : labAt cols[i] k = x
      · rw [if_pos h2] at hs
        refine .inr ⟨h2, by unfold cntR; rw [hs]; rfl, hx, ?_⟩
        have hsp : rowOf cols k = rowOf (cols.take (i + 1)) k ++ rowOf (cols.drop (i + 1)) k := by unfold rowOf; rw [← List.map_append, List.take_append_drop]
        rw [hsp, rowGo_append, hs] at hrow
        have := (rowGo_bound hrow).1
        omega
      · rw [if_neg h2] at hs
        rw [rowGo_none hs] at hrow; cases hrow
end Go.Sy
namespace Go.Proofs.YtialbhieaipcgaaDoor
open Go Go.Sy Go.RowKit
set_option maxHeartbeats 2000000 in
theorem l_MultiRows (p ps : Option Addr) (cp cs : Nat) (l : List WD) (st : List Int) (hl : l.length < 2 ^ 63) (hok : ∀ x ∈ l, Wok x.w) (hw : ∀ x ∈ l, x.w.length < 2 ^ 63) (hst : st.length < 2 ^ 63) :
    RetP Tryd.prog n_law18_MultiRows [slv p l.length cp, slv ps st.length cs] (fun R => WordsAt R p l ∧ Cells R ps (st.map (.int .u8)) ∧ VarsOk R) (.bool true) := by
  refine Fn.of S_law18_MultiRows mx [.p p, .i l.length, .i cp, .p ps, .i st.length, .i cs] rfl rfl fun c hp => ?_
  have hV := hp.2.2
  refine .join (fun us m => ∃ b, us = [.b b] ∧ (b = false → goodW 8 20 (l.map (·.w)) = true ∧ st.length ≤ 300) ∧ Mem.emp = m) ?_ ?_
  · refine .callV (c_good p cp l 8 20 hl hok hw) (fun g => hp.1.mono g.R) (.env (by (try simp only [liE, letsOf, letU, snd, List.append_nil]); rfl) (.ite (fun h1 => .again rfl ⟨true, rfl, nofun, rfl⟩) (fun h1 => .chk (by ((try simp only [evE, liE, letsOf, letU, snd]); (try simp only [cmE])); omega) (.again rfl ⟨_, rfl, fun h2 => ⟨by ((try simp only [evE, liE, letsOf, letU, snd] at h1); (try simp only [cmE] at h1)); exact h1, by ((try simp only [evE, liE, letsOf, letU, snd] at h2); (try simp only [cmE] at h2)); omega⟩, rfl⟩)))) <;> ((try simp only [evE, liE, letsOf, letU, snd] at h1); (try simp only [cmE] at h1))
  rintro _ _ _ ⟨b, rfl, hb, rfl⟩
  refine .env (by (try simp only [liE, letsOf, letU, snd, List.append_nil]); rfl) (.ite (fun h1 => .callV c_works (fun g => hV.mono g.R) (.env (by (try simp only [liE, letsOf, letU, snd, List.append_nil]); rfl) (.ret rfl rfl))) (fun h1 => ?_)) <;> ((try simp only [evE, liE, letsOf, letU, snd] at h1); (try simp only [cmE] at h1))
  obtain ⟨hg, hst⟩ := hb h1
  clear hb
  have hgW := goodW_of hg
  have hwlen : (l.map (·.w)).length = l.length := List.length_map _
  have hl8 : l.length ≤ 8 := by have := hgW.1; omega
  have hw8 : wordsE 8 (l.map (·.w)) = 0 := good_words hg (by omega)
  have hw20 : ∀ x ∈ l, x.w.length ≤ 20 := fun x hx => by have := (hgW.2 x.w (List.mem_map_of_mem hx)).1; omega
  refine .callE (c_choice p ps cp cs l st hl8 (fun x hx => by have := hw20 x hx; omega) (by omega)) (fun g => ⟨hp.1.mono g.R, hp.2.1.mono g.R⟩) ?_
  rintro v mq m1 hle1 hq1 ⟨q, k1, rs, rfl, hT, hal, hrl⟩
  refine ⟨[.p q, .i (rs.length : Nat), .i k1], uOk_of rfl, (slv_fresh _ _ _ _ _).symm, .env (by (try simp only [liE, letsOf, letU, snd, List.append_nil]); rfl) ?_⟩
  have hT := hT.le' hq1
  clear hle1 hq1
  have hck : checkA (l.map (·.w)) (rs.map (·.l)) = 0 := checkA_al hw8 hal
  have hsm := al_small hal (by rw [hwlen]; omega)
  have hclen : (rs.map (·.l)).length = rs.length := List.length_map _
  have kC := c_Cells p q cp k1 l rs (by omega) (by omega) hok (fun r hr => by have := hsm r hr; omega)
  rw [cellsA_ok hck] at kC
  refine .callE kC (fun g => ⟨hp.1.mono g.R, hT.reads g⟩) ?_
  rintro v mq2 m2 hle2 hq2 ⟨q2, k2, ts, rfl, hts, hTC⟩
  replace hts : ts.map (·.l) = (rs.map (·.l)).map (colC (l.map (·.w))) := hts
  refine ⟨[.p q2, .i (ts.length : Nat), .i k2, .i 0], uOk_of rfl, (tab_fresh _ _ _ _ _ _).symm, .env (by (try simp only [liE, letsOf, letU, snd, List.append_nil]); rfl) ?_⟩
  have hTC := hTC.le hq2
  have hT := hT.le' hle2
  clear kC hle2 hq2
  have htl := congrArg List.length hts
  rw [List.length_map, List.length_map, hclen] at htl
  have htj : ∀ (i : Nat) (h : i < ts.length), ts[i].l = colC (l.map (·.w)) (rs[i]'(by omega)).l := fun i h => by
    have := congrArg (fun x => x[i]?) hts
    simp only [List.getElem?_map, List.getElem?_eq_getElem h, List.getElem?_eq_getElem (show i < rs.length by omega), Option.map_some, Option.some.injEq] at this
    exact this
  refine .join (fun us m => ∃ b, us = [.b b] ∧ b = false ∧ m2 = m) (.no rfl (.callV (c_Check p q cp k1 l rs (by omega) (by omega) hok (fun r hr => by have := hsm r hr; omega)) (fun g => ⟨hp.1.mono g.R, hT.reads g⟩) (.env (by (try simp only [liE, letsOf, letU, snd, List.append_nil]); rw [hck]) (.no rfl (.chk (by ((try simp only [evE, liE, letsOf, letU, snd]); (try simp only [cmE])); omega) (.chk (by ((try simp only [evE, liE, letsOf, letU, snd]); (try simp only [cmE])); omega) (.again rfl ⟨_, rfl, by ((try simp only [evE, liE, letsOf, letU, snd]); (try simp only [cmE])); omega, rfl⟩))))))) ?_
  rintro _ _ _ ⟨_, rfl, rfl, rfl⟩
  refine .env (by (try simp only [liE, letsOf, letU, snd, List.append_nil]); rfl) (.no rfl (.chk (by ((try simp only [evE, liE, letsOf, letU, snd]); (try simp only [cmE])); omega) (.make (z := .int .i64 0) (bytes := 8) rs.length Tryd.underlying49 int_info rfl (by omega) (by simp [maxLen]; omega) (fun gs hgs hrow => ?_))))
  have hle : m2.le (m2.upd gs (.cells (madeCells #[Value.int .i64 0] rs.length) 3 (0, 0))) := fun b o hb => by
    rw [Mem.upd_other _ _ (fun e => by rw [e, hgs] at hb; cases hb)]; exact hb
  generalize Mem.upd _ gs _ = m3 at hrow hle ⊢
  rw [row_ints] at hrow
  have hent := isAl_ent hal
  have hrlen : ∀ (i : Nat) (h : i < rs.length), rs[i].l.length = l.length := fun i h => by
    have := (hent rs[i].l (List.mem_map_of_mem (List.getElem_mem h))).1
    omega
  refine .env (by (try simp only [liE, letsOf, letU, snd, List.append_nil]); rfl) (.loop (fun z us m => ∃ (e : Bool) (k : Nat) (ss : List Int), us = [.b e, .i k] ∧ z + k = l.length ∧ m2.le m ∧ ss.length = rs.length ∧ (∀ (i : Nat) (h : i < rs.length), labAt ss i = (cntS rs[i].l k : Nat)) ∧ Row m 3 1 (some ⟨gs, 0, none⟩) rs.length rs.length (intsL ss)) l.length
    ⟨false, 0, List.replicate rs.length 0, rfl, by omega, hle, List.length_replicate, fun i h => by unfold labAt; rw [List.getElem?_replicate, if_pos h]; rfl, hrow⟩ ?_)
  clear hrow hle m3
  rintro z _ m _ ⟨e, k, ss, rfl, hz, hle, hsl, hss, hS⟩
  refine .env (by (try simp only [liE, letsOf, letU, snd, List.append_nil]); rfl) (.chk (by ((try simp only [evE, liE, letsOf, letU, snd]); (try simp only [cmE])); omega) (.ite (fun h2 => ?_) (fun h2 => ?_))) <;> ((try simp only [evE, liE, letsOf, letU, snd] at h2); (try simp only [cmE] at h2))
  · have hk : k < l.length := by omega
    have kR := c_Row p q cp k1 l rs k (by omega) (by omega) hok (fun r hr => by have := hsm r hr; omega)
    rw [rowCA_ok hck (by rw [hwlen]; exact hk)] at kR
    dsimp only at kR
    have hTm := hT.le' hle
    refine .callE kR (fun g => ⟨hp.1.mono g.R, hTm.reads g⟩) ?_
    clear kR hTm
    rintro v mq4 m4 hle4 hq4 ⟨q4, k4, rfl, hR⟩
    have hcl : (rowC (l.map (·.w)) (rs.map (·.l)) k).length = rs.length := by rw [rowC_len, hclen]
    rw [hcl] at hR ⊢
    refine ⟨[.p q4, .i (rs.length : Nat), .i k4, .i 0], uOk_of rfl, (tab_fresh _ _ _ _ _ _).symm, .env (by (try simp only [liE, letsOf, letU, snd, List.append_nil]); rfl) ?_⟩
    have hR := Row.le hR hq4
    have hS := Row.le hS hle4
    have hle := hle.trans hle4
    clear hle4 hq4
    refine .join (fun us m => ∃ b, us = [.b b] ∧ b = false ∧ m4 = m) (.no rfl (.chk (by ((try simp only [evE, liE, letsOf, letU, snd]); (try simp only [cmE])); omega) (.chk (by ((try simp only [evE, liE, letsOf, letU, snd]); (try simp only [cmE])); omega) (.again rfl ⟨_, rfl, by ((try simp only [evE, liE, letsOf, letU, snd]); (try simp only [cmE])) <;> simp, rfl⟩)))) ?_
    rintro _ _ _ ⟨_, rfl, rfl, rfl⟩
    have hgs4 : m2 gs = none := hgs
    refine .env (by (try simp only [liE, letsOf, letU, snd, List.append_nil]); rfl) (.no rfl (.loop (fun z us m => ∃ (e : Bool) (i : Nat) (ss : List Int), us = [.b e, .i (cntR (rs.map (·.l)) k i), .i i] ∧ z + i = rs.length ∧ (∀ b, b ≠ gs → m b = m4 b) ∧ ss.length = rs.length ∧ (∀ (j : Nat) (h : j < rs.length), labAt ss j = if j < i then (cntS rs[j].l (k + 1) : Nat) else (cntS rs[j].l k : Nat)) ∧ Row m 3 1 (some ⟨gs, 0, none⟩) rs.length rs.length (intsL ss)) rs.length
      ⟨e, 0, ss, rfl, by omega, fun _ _ => rfl, hsl, fun j h => by rw [if_neg (by omega)]; exact hss j h, hS⟩ ?_))
    rintro z5 _ m5 _ ⟨e5, i, s5, rfl, hz5, hb5, hsl5, hss5, hS5⟩
    have hle5 : m2.le m5 := fun b o hbo => by rw [hb5 b (fun e => by rw [e, hgs4] at hbo; cases hbo)]; exact hle b o hbo
    have hT5 := hTC.le hle5
    have hR5 : Row m5 67 3 q4 k4 rs.length (ccells (rowC (l.map (·.w)) (rs.map (·.l)) k)) := hR.keep fun b hb hbm => hb5 b fun e => Row.apart hR hS (by decide) b hb (by rw [e])
    have hgl : ∀ {b}, b ≠ gs → True := fun _ => trivial
    refine .env (by (try simp only [liE, letsOf, letU, snd, List.append_nil]); rfl) (.chk (by ((try simp only [evE, liE, letsOf, letU, snd]); (try simp only [cmE])); omega) (.ite (fun h3 => ?_) (fun h3 => ?_))) <;> ((try simp only [evE, liE, letsOf, letU, snd] at h3); (try simp only [cmE] at h3))
    · have hi : i < rs.length := by omega
      have hit : i < ts.length := by omega
      have htl5 : ts[i].l.length = l.length := by rw [htj i hit, colC_len, hwlen]
      have hci := cntR_is hal (k := k) (i := i) (by rw [hwlen]; exact hk) (by rw [hclen]; exact hi)
      rw [List.getElem_map, wl_at l hk] at hci
      obtain ⟨_, _, hci⟩ := hci
      have hw20k := hw20 _ (List.getElem_mem hk)
      have hcell : ts[i].l[k]'(by omega) = cellE l[k].w (labAt rs[i].l k) := by
        have := colC_at (l.map (·.w)) rs[i].l (i := k) (by rw [hwlen]; exact hk)
        rw [getD_w l k hk] at this
        rw [← this]
        congr 1
        exact htj i hit
      have hrow : (rowC (l.map (·.w)) (rs.map (·.l)) k)[i]'(by omega) = cellE l[k].w (labAt rs[i].l k) := by
        rw [rowC_at _ _ (by rw [hclen]; exact hi), List.getElem_map, getD_w l k hk]
      refine .join (fun us m => ∃ b, us = [.b b] ∧ b = false ∧ m5 = m) ?_ ?_
      · refine .loadSl (ts.map CR.v) i ts.length ts[i].p ts[i].l.length ts[i].cap hit (crow_at ts i hit) (fun g => (hT5.reads g).1) (.env (by (try simp only [liE, letsOf, letU, snd, List.append_nil]); rfl) (.chk (by ((try simp only [evE, liE, letsOf, letU, snd]); (try simp only [cmE])); omega) (.chk (by ((try simp only [evE, liE, letsOf, letU, snd]); (try simp only [cmE])); omega) (.no (by ((try simp only [evE, liE, letsOf, letU, snd]); (try simp only [cmE])); omega) ?_))))
        refine .loadSl (ts.map CR.v) i ts.length ts[i].p ts[i].l.length ts[i].cap hit (crow_at ts i hit) (fun g => (hT5.reads g).1) (.env (by (try simp only [liE, letsOf, letU, snd, List.append_nil]); rfl) (.loadCE ts[i].l k (by omega) (fun g => (hT5.reads g).2 _ (List.getElem_mem hit)) (.env (by (try simp only [liE, letsOf, letU, snd, List.append_nil]); rfl) ?_)))
        refine .loadCE (rowC (l.map (·.w)) (rs.map (·.l)) k) i (by omega) (fun g => hR5.reads g) (.env (by (try simp only [liE, letsOf, letU, snd, List.append_nil]); rfl) (.again rfl ⟨_, rfl, ?_, rfl⟩)) rfl (by rw [hcl]; rfl)
        rw [hcell, hrow]
        ((try simp only [evE, liE, letsOf, letU, snd]); (try simp only [cmE]))
        simp
      rintro _ _ _ ⟨_, rfl, rfl, rfl⟩
      refine .env (by (try simp only [liE, letsOf, letU, snd, List.append_nil]); rfl) (.no rfl (.loadCk (rowC (l.map (·.w)) (rs.map (·.l)) k) i (by omega) (fun g => hR5.reads g) (.env (by (try simp only [liE, letsOf, letU, snd, List.append_nil]); rw [hrow]) ?_) rfl (by rw [hcl]; rfl)))
      have hcs := cntS_succ (col := rs[i].l) (k := k) (by rw [hrlen i hi]; exact hk)
      refine .join (fun us m => ∃ b, us = [.b b, .i (cntR (rs.map (·.l)) k (i + 1))] ∧ ∃ s6 : List Int, (∀ b, b ≠ gs → m b = m4 b) ∧ s6.length = rs.length ∧ (∀ (j : Nat) (h : j < rs.length), labAt s6 j = if j < i + 1 then (cntS rs[j].l (k + 1) : Nat) else (cntS rs[j].l k : Nat)) ∧ Row m 3 1 (some ⟨gs, 0, none⟩) rs.length rs.length (intsL s6)) (.ite (fun h4 => ?_) (fun h4 => ?_)) ?_
      · ((try simp only [evE, liE, letsOf, letU, snd] at h4); (try simp only [cmE] at h4))
        have hne : ¬ labAt rs[i].l k = -1 := fun h => by unfold cellE at h4; rw [if_pos h] at h4; exact absurd h4 (by decide)
        rcases hci with ⟨h, _⟩ | ⟨h5, h6, h7, h8⟩
        · exact absurd h hne
        obtain ⟨n, hn⟩ : ∃ n : Nat, cntR (rs.map (·.l)) k i = n := ⟨(cntR (rs.map (·.l)) k i).toNat, by omega⟩
        have hnl : n < l[k].w.length := by omega
        refine .join (fun us m => ∃ b, us = [.b b] ∧ b = false ∧ m5 = m) ?_ ?_
        · refine .loadWD l k hk (fun g => hp.1.1.mono g.R) (.env (by (try simp only [liE, letsOf, letU, snd, List.append_nil]); rfl) (.chk (by ((try simp only [evE, liE, letsOf, letU, snd]); (try simp only [cmE])); omega) (.no (by ((try simp only [evE, liE, letsOf, letU, snd]); (try simp only [cmE])); omega) ?_)))
          refine .loadCs (rowC (l.map (·.w)) (rs.map (·.l)) k) i (by omega) (fun g => hR5.reads g) (.env (by (try simp only [liE, letsOf, letU, snd, List.append_nil]); rw [hrow]) ?_) rfl (by rw [hcl]; rfl)
          refine .loadWD l k hk (fun g => hp.1.1.mono g.R) (.env (by (try simp only [liE, letsOf, letU, snd, List.append_nil]); rfl) (.loadW l[k].w n hnl (fun g => (hp.1.2 _ (List.getElem_mem hk)).mono g.R) (.env (by (try simp only [liE, letsOf, letU, snd, List.append_nil]); rfl) (.again rfl ⟨_, rfl, ?_, rfl⟩)) (by show cntR (rs.map (·.l)) k i = _; exact hn)))
          unfold cellE
          rw [if_neg hne, h5, hn, Int.toNat_natCast, getD_at _ _ _ hnl]
          ((try simp only [evE, liE, letsOf, letU, snd]); (try simp only [cmE]))
          simp
        rintro _ _ _ ⟨_, rfl, rfl, rfl⟩
        refine .env (by (try simp only [liE, letsOf, letU, snd, List.append_nil]); rfl) (.no rfl (.elem1 (.int .i64 (labAt s5 i)) (intsL s5) i rs.length rfl rfl hi (fun g => hS5.reads g) (intsL_at s5 i (by omega)) (.env (by (try simp only [liE, letsOf, letU, snd, List.append_nil]); rfl) (.storeR i hi hS5 rfl rfl rfl fun m6 g6 hg6 hR6 hs6 => ?_))))
        cases hg6
        replace hR6 : Row m6 3 1 (some ⟨gs, 0, none⟩) rs.length rs.length ((intsL s5).set i (.int .i64 (ar .add .i64 (labAt s5 i) 1))) := hR6
        have hv := hss5 i hi
        rw [if_neg (Nat.lt_irrefl i)] at hv
        have hc8 := cntS_le rs[i].l k
        rw [if_neg hne] at hcs
        rw [intsL_set, hv, addI (by omega) (by omega)] at hR6
        refine .again rfl ⟨e5, ?_, s5.set i ((cntS rs[i].l k : Nat) + 1), fun b hb => by rw [hs6 b hb, hb5 b hb], by rw [List.length_set]; exact hsl5, fun j hj => ?_, hR6⟩
        · (simp only [evE, liE, letsOf, letU, snd, Sh.uss, Sh.us, atAddr, map_add0, List.append_nil]); rw [h6, addI (by omega) (by omega)]
        · rw [labAt_set (by omega)]
          by_cases e : i = j
          · subst e; rw [if_pos rfl, if_pos (by omega), hcs]; rfl
          · rw [if_neg e, hss5 j hj]
            by_cases hji : j < i
            · rw [if_pos hji, if_pos (by omega)]
            · rw [if_neg hji, if_neg (by omega)]
      · ((try simp only [evE, liE, letsOf, letU, snd] at h4); (try simp only [cmE] at h4))
        have hye : labAt rs[i].l k = -1 := by
          by_cases h : labAt rs[i].l k = -1
          · exact h
          · unfold cellE at h4; rw [if_neg h] at h4; exact absurd rfl h4
        rcases hci with ⟨_, h6⟩ | ⟨h5, _, h7, _⟩
        · refine .join (fun us m => ∃ b, us = [.b b] ∧ b = false ∧ m5 = m) ?_ ?_
          · refine .loadCk (rowC (l.map (·.w)) (rs.map (·.l)) k) i (by omega) (fun g => hR5.reads g) (.env (by (try simp only [liE, letsOf, letU, snd, List.append_nil]); rw [hrow]) (.no ?_ ?_)) rfl (by rw [hcl]; rfl)
            · unfold cellE; rw [if_pos hye]; rfl
            · refine .loadCs (rowC (l.map (·.w)) (rs.map (·.l)) k) i (by omega) (fun g => hR5.reads g) (.env (by (try simp only [liE, letsOf, letU, snd, List.append_nil]); rw [hrow]) (.again rfl ⟨_, rfl, ?_, rfl⟩)) rfl (by rw [hcl]; rfl)
              unfold cellE; rw [if_pos hye]; rfl
          rintro _ _ _ ⟨_, rfl, rfl, rfl⟩
          refine .env (by (try simp only [liE, letsOf, letU, snd, List.append_nil]); rfl) (.no rfl (.again rfl ⟨e5, ?_, s5, hb5, hsl5, fun j hj => ?_, hS5⟩))
          · (simp only [evE, liE, letsOf, letU, snd, Sh.uss, Sh.us, atAddr, map_add0, List.append_nil]); rw [h6]
          · rw [hss5 j hj]
            by_cases e : i = j
            · subst e
              rw [if_neg (Nat.lt_irrefl i), if_pos (by omega), hcs, if_pos hye]; rfl
            · by_cases hji : j < i
              · rw [if_pos hji, if_pos (by omega)]
              · rw [if_neg hji, if_neg (by omega)]
        · omega
      · rintro _ m6 _ ⟨b6, rfl, s6, a1, a2, a3, a4⟩
        refine .env (by (try simp only [liE, letsOf, letU, snd, List.append_nil]); rfl) (.again rfl ⟨z5 - 1, by omega, b6, i + 1, s6, ?_, by omega, a1, a2, a3, a4⟩)
        (simp only [evE, liE, letsOf, letU, snd, Sh.uss, Sh.us, atAddr, map_add0, List.append_nil]); rw [add_i64 i (by omega)]
    · obtain rfl : i = rs.length := by omega
      have hend := cntR_is hal (k := k) (i := 0) (by rw [hwlen]; exact hk)
      have hcend : cntR (rs.map (·.l)) k rs.length = (l[k].w.length : Nat) := by
        rcases Nat.eq_zero_or_pos rs.length with h0 | h0
        · have hrow := (isAl_of hal).2 k (by rw [hwlen]; exact hk)
          rw [wl_at l hk] at hrow
          unfold cntR
          rw [List.take_of_length_le (by rw [hclen]; omega), hrow]; rfl
        · have := (cntR_is hal (k := k) (i := 0) (by rw [hwlen]; exact hk) (by rw [hclen]; exact h0)).2.1
          rw [hclen, wl_at l hk] at this
          exact this
      refine .loadWD l k hk (fun g => hp.1.1.mono g.R) (.env (by (try simp only [liE, letsOf, letU, snd, List.append_nil]); rfl) (.chk (by ((try simp only [evE, liE, letsOf, letU, snd]); (try simp only [cmE])); omega) (.no (by ((try simp only [evE, liE, letsOf, letU, snd]); (try simp only [cmE])); omega) (.again rfl ⟨z - 1, by omega, e5, k + 1, s5, ?_, by omega, hle5, hsl5, fun j hj => by rw [hss5 j hj, if_pos hj], hS5⟩))))
      (simp only [evE, liE, letsOf, letU, snd, Sh.uss, Sh.us, atAddr, map_add0, List.append_nil]); rw [add_i64 k (by omega)]
  · obtain rfl : k = l.length := by omega
    refine .loop (fun z us m' => ∃ (e : Bool) (i : Nat), us = [.b e, .i i] ∧ z + i = rs.length ∧ m = m') rs.length ⟨e, 0, rfl, by omega, rfl⟩ ?_
    rintro z5 _ _ _ ⟨e5, i, rfl, hz5, rfl⟩
    refine .env (by (try simp only [liE, letsOf, letU, snd, List.append_nil]); rfl) (.chk (by ((try simp only [evE, liE, letsOf, letU, snd]); (try simp only [cmE])); omega) (.ite (fun h3 => ?_) (fun h3 => .callV c_works (fun g => hV.mono g.R) (.env (by (try simp only [liE, letsOf, letU, snd, List.append_nil]); rfl) (.ret rfl rfl))))) <;> ((try simp only [evE, liE, letsOf, letU, snd] at h3); (try simp only [cmE] at h3))
    have hi : i < rs.length := by omega
    have hpos : labAt ss i ≠ 0 := by
      rw [hss i hi]
      intro h
      have h0 : cntS rs[i].l l.length = 0 := by omega
      rw [← hrlen i hi, cntS_zero] at h0
      obtain ⟨_, x, hx, hne⟩ := (isAl_of hal).1 rs[i].l (List.mem_map_of_mem (List.getElem_mem hi))
      rw [Bool.eq_false_iff] at h0
      exact h0 (List.any_eq_true.2 ⟨x, hx, by simpa using hne⟩)
    refine .elem1 (.int .i64 (labAt ss i)) (intsL ss) i rs.length rfl rfl hi (fun g => hS.reads g) (intsL_at ss i (by omega)) (.env (by (try simp only [liE, letsOf, letU, snd, List.append_nil]); rfl) (.no (by ((try simp only [evE, liE, letsOf, letU, snd]); (try simp only [cmE])); exact hpos) (.again rfl ⟨z5 - 1, by omega, e5, i + 1, ?_, by omega, rfl⟩)))
    (simp only [evE, liE, letsOf, letU, snd, Sh.uss, Sh.us, atAddr, map_add0, List.append_nil]); rw [add_i64 i (by omega)]
end Go.Proofs.YtialbhieaipcgaaDoor
