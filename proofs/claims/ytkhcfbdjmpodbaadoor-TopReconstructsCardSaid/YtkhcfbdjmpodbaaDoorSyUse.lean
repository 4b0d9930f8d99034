/- The trees at work: a function's contract out of its tree; memory as a map; calls by contract; loops. -/
import Derived.Test.YtkhcfbdjmpodbaaDoorSySound
set_option linter.unusedSimpArgs false
set_option linter.unusedVariables false
namespace Go.Sy
open Go Go.RowKit

def rvS (tmps : Array Value) : ResultVar → Sem Value
  | .tmp t => pure (tmps.getD t Go.undef)
  | .cell x t => do loadVar t (← asAddr (tmps.getD x Go.undef))
theorem resultS_run {P : Program} {L : List Nat} {ρ : Env} {D : List Deferred} {st : St} {a : Act} {w : World} (hfr : Fr L ρ D st.tmps a) (hw : Blks L ρ st.blks w) :
    ∀ (rs : List ResultVar) (l : List SV), resultS st P rs = some l → l.all SV.firm = true →
      (rs.mapM (rvS a.tmps)).run P w = .ok (SV.dens L ρ l) w
  | [], l, h, _ => by simp [resultS] at h; subst h; simp [SV.dens]
  | .tmp t :: rs, l, hr, hf => by
    simp only [resultS] at hr
    cases hrs : resultS st P rs with
    | none => simp [hrs] at hr
    | some q =>
      simp only [hrs, Option.pure_def, Option.bind_eq_bind, Option.bind_some, Option.some.injEq] at hr
      subst hr
      simp only [List.all_cons, Bool.and_eq_true] at hf
      have h1 := (hfr.ev (.tmp t)).firm hf.1
      simp only [St.ev, Act.eval] at h1
      simp only [List.mapM_cons, Sem.run_bind, rvS, Sem.run_pure, Result.andThen_ok, resultS_run hfr hw rs q hrs hf.2, SV.dens, h1]
  | .cell x ty :: rs, l, hr, hf => by
    simp only [resultS] at hr
    have hx := hfr.ev (.tmp x)
    simp only [St.ev, Act.eval] at hx
    split at hr
    · rename_i b off e
      rw [e] at hx
      have hv := hx.of_ne (by simp)
      simp only [bind, Option.bind_eq_some_iff] at hr
      obtain ⟨blk, hb, y, hy, q, hq, hr⟩ := hr
      cases hr
      simp only [List.all_cons, Bool.and_eq_true] at hf
      have h1 : (rvS a.tmps (.cell x ty)).run P w = .ok (y.den L ρ) w := by
        simp only [rvS]; rw [hv]; exact partS_cells hy (hw b blk hb)
      have h2 := resultS_run hfr hw rs q hq hf.2
      rw [List.mapM_cons, Sem.run_bind, h1, Result.andThen_ok, Sem.run_bind, h2]
      rfl
    · cases hr
theorem results_run {P : Program} {fn : Func} {L : List Nat} {ρ : Env} {D : List Deferred} {st : St} {a : Act} {w : World} (hfr : Fr L ρ D st.tmps a) (hw : Blks L ρ st.blks w) {l : List SV}
    (hr : resultS st P fn.results.toList = some l) (hf : l.all SV.firm = true) : (results fn a.tmps).run P w = .ok (match l with | [x] => x.den L ρ | l => .tuple (SV.dens L ρ l).toArray) w := by
  have := resultS_run hfr hw _ l hr hf
  have he : results fn a.tmps = (do let vs ← fn.results.mapM (rvS a.tmps); pure (if h : vs.size = 1 then vs[0] else .tuple vs) : Sem Value) := rfl
  rw [he, Array.mapM_eq_mapM_toList, Sem.run_bind, Sem.run_map, this]
  match l with
  | [] => rfl
  | [x] => rfl
  | x :: y :: l => rfl

theorem results_many {P : Program} {fn : Func} {L : List Nat} {ρ : Env} {D : List Deferred} {st : St} {a : Act} {w : World} (hfr : Fr L ρ D st.tmps a) (hw : Blks L ρ st.blks w) :
    ∀ {l : List SV}, (∀ x, l ≠ [x]) → resultS st P fn.results.toList = some l → l.all SV.firm = true → (results fn a.tmps).run P w = .ok ((SV.tup l).den L ρ) w
  | [], _, hr, hf => results_run hfr hw hr hf
  | [x], hne, _, _ => absurd rfl (hne x)
  | _ :: _ :: _, _, hr, hf => results_run hfr hw hr hf
theorem firm_append {l l' : List SV} (h : (l ++ l').all SV.firm = true) : l.all SV.firm = true ∧ l'.all SV.firm = true := by rw [List.all_append, Bool.and_eq_true] at h; exact h
theorem densS_append (L : List Nat) (ρ : Env) : ∀ (l l' : List SV), SV.dens L ρ (l ++ l') = SV.dens L ρ l ++ SV.dens L ρ l'
  | [], l' => by simp [SV.dens]
  | x :: l, l' => by simp only [List.cons_append, SV.dens, densS_append L ρ l l']
def finV : List Value → Value
  | [x] => x
  | l => .tuple l.toArray
theorem resT_run {P : Program} {R : Value → HW → Prop} {Dn : Nat → List U → HW → Prop} {L : List Nat} {h : HW} {A : List (List U → HW → Prop)} {D : List Deferred} {a : Act} : ∀ (rs : List ResultVar) (st : St) (ρ : Env) (acc : List SV), ρ.length = st.nv → Fr L ρ D st.tmps a → den P R Dn (resT P rs st acc) L ρ h A →
    acc.all SV.firm = true ∧ ∃ vs : List Value, (∀ w, Wd L ρ st.blks h w → (rs.mapM (rvS a.tmps)).run P w = .ok vs w) ∧ ∃ h3 : HW, (∀ w, Wd L ρ st.blks h w → h3.H w) ∧ (∀ b, h3.own b → h.own b ∨ b ∈ L) ∧ R (finV (SV.dens L ρ acc ++ vs)) h3
  | [], st, ρ, acc, _, _, hd => by
    unfold resT at hd
    split at hd
    · rename_i hf
      obtain ⟨h3, q1, q2, q3⟩ := hd
      refine ⟨hf, [], fun w _ => rfl, h3, q1, q2, ?_⟩
      rw [List.append_nil]
      match acc, q3 with
      | [], q3 => exact q3
      | [x], q3 => exact q3
      | x :: y :: l, q3 => exact q3
    · exact hd.elim
  | .tmp t :: r, st, ρ, acc, hlen, hfr, hd => by
    unfold resT at hd
    obtain ⟨hf, vs, h1, h3, q1, q2, q3⟩ := resT_run r st ρ _ hlen hfr hd
    obtain ⟨hf1, hf2⟩ := firm_append hf
    have hx := (hfr.ev (.tmp t)).firm (by simpa [St.ev] using hf2)
    simp only [St.ev, Act.eval] at hx
    refine ⟨hf1, (st.tmps.getD t .undef).den L ρ :: vs, fun w hw => ?_, h3, q1, q2, ?_⟩
    · simp only [List.mapM_cons, Sem.run_bind, rvS, Sem.run_pure, Result.andThen_ok, h1 w hw, hx]
    · rw [densS_append] at q3
      simp only [SV.dens, List.append_assoc, List.cons_append, List.nil_append] at q3
      exact q3
  | .cell x ty :: r, st, ρ, acc, hlen, hfr, hd => by
    unfold resT at hd
    have hx := hfr.ev (.tmp x)
    simp only [St.ev, Act.eval] at hx
    split at hd
    · rename_i i off e
      rw [e] at hx
      have hv := hx.of_ne (by simp)
      split at hd
      · exact hd.elim
      · rename_i z hz
        split at hd
        · exact hd.elim
        · rename_i hn
          simp only [Bool.or_eq_true, Bool.and_eq_true, Bool.not_eq_true', decide_eq_true_eq, not_or, not_and, ne_eq, Decidable.not_not, Bool.not_eq_false] at hn
          obtain ⟨⟨⟨⟨hn1, hn2⟩, hn3⟩, hacc⟩, hsc⟩ := hn
          obtain ⟨hsb, hst⟩ := scSt_spec hsc hlen
          obtain ⟨us, hus, hcells, hd⟩ := hd
          have hlus := freshs_len (z.map cellShape) us ρ.length hus
          have hl2 : (SV.dens L (ρ ++ us) (Sh.freshs (z.map cellShape) ρ.length).1).length = z.length := by rw [dens_length, freshs_length, List.length_map]
          obtain ⟨hf, vs, h1, h3, q1, q2, q3⟩ := resT_run r { st with nv := (Sh.freshs (z.map cellShape) st.nv).2 } (ρ ++ us) _ (by rw [← hlen, hlus, List.length_append]) (hfr.more (EqUpTo.append' ρ us) (EqLoc.refl _ _) hst) hd
          obtain ⟨hf1, _⟩ := firm_append hf
          have hda : SV.dens L (ρ ++ us) acc = SV.dens L ρ acc := (SV.scs_den (EqUpTo.append' ρ us) (EqLoc.refl _ _) acc (by rw [hlen]; exact hacc)).symm
          refine ⟨hf1, (if isAggT P ty = true then .agg (SV.dens L (ρ ++ us) (Sh.freshs (z.map cellShape) ρ.length).1).toArray else (SV.dens L (ρ ++ us) (Sh.freshs (z.map cellShape) ρ.length).1).headD Go.undef) :: vs, fun w hw => ?_, h3, fun w hw => q1 w ((Wd.letters hsb).2 hw), q2, ?_⟩
          · have h2 := h1 w ((Wd.letters hsb).2 hw)
            obtain ⟨b, o, ha, hcs⟩ := hcells w hw
            have hrv : (rvS a.tmps (.cell x ty)).run P w = .ok (if isAggT P ty = true then .agg (SV.dens L (ρ ++ us) (Sh.freshs (z.map cellShape) ρ.length).1).toArray else (SV.dens L (ρ ++ us) (Sh.freshs (z.map cellShape) ρ.length).1).headD Go.undef) w := by
              cases hu : P.underlying ty with
              | none => simp [hu] at hn1
              | some d =>
                simp only [rvS]
                rw [hv]
                simp only [SV.den, ha]
                exact run_loadVar' hu (by rw [hl2]; exact hn2) (fun h1 => by rw [hl2]; exact hn3 h1) hcs
            rw [List.mapM_cons, Sem.run_bind, hrv, Result.andThen_ok, Sem.run_bind, h2]
            rfl
          · rw [densS_append, hda] at q3
            have hy : (if isAggT P ty = true then SV.agg (Sh.freshs (z.map cellShape) st.nv).1 else (Sh.freshs (z.map cellShape) st.nv).1.headD .junk).den L (ρ ++ us) = (if isAggT P ty = true then .agg (SV.dens L (ρ ++ us) (Sh.freshs (z.map cellShape) ρ.length).1).toArray else (SV.dens L (ρ ++ us) (Sh.freshs (z.map cellShape) ρ.length).1).headD Go.undef) := by
              rw [← hlen]
              split
              · simp [SV.den]
              · rename_i hna
                have hz1 : z.length = 1 := hn3 (by simpa using hna)
                match z, hz1 with
                | [y], _ => simp [Sh.freshs, SV.dens]
            simp only [SV.dens, List.append_assoc, List.cons_append, List.nil_append] at q3
            rw [hy] at q3
            exact q3
    · exact hd.elim
def restOf (h : HW) (w : World) : HW where
  H w' := w.heap.size ≤ w'.heap.size ∧ (∀ k, k < w.heap.size → ¬ h.own k → w'.heap[k]? = w.heap[k]?) ∧ w'.tape = w.tape ∧ w'.os = w.os ∧ w'.output = w.output
  own k := k < w.heap.size ∧ ¬ h.own k
  stab wa wb := fun ⟨q1, q2, q3, q4, q5⟩ hs hk ht ho hu => ⟨Nat.le_trans q1 hs, fun k k1 k2 => (hk k ⟨k1, k2⟩).trans (q2 k k1 k2), ht.trans q3, ho.trans q4, hu.trans q5⟩
  inb _ _ := fun q hb => Nat.lt_of_lt_of_le hb.1 q.1
theorem leaves_marks {P : Program} {fn : Func} {F0 h : HW} {L : List Nat} {ρ : Env} {blks : List Blk} {tmps : Array Value} {v : Value} {R : Value → World → Prop} (hres : ∀ w, Wd L ρ blks h w → (results fn tmps).run P w = .ok v w)
    (hR : ∀ w, Wd L ρ blks h w → F0.H w → R v w) :
    ∀ (Ds : List Nat) (w : World), MOk F0 Ds → Inv F0 Ds L ρ blks h w → LeavesInM Fence.wide 0 P fn tmps (fun e w' => ∃ v, e = .returned v ∧ R v w') (marks Ds) .returning w
  | [], w, _, hi => ⟨v, hres w hi.1, v, rfl, hR w hi.1 hi.2.1.1⟩
  | d :: Ds, w, hm, hi => by
    have hd := hi.2.1.2 d (by simp)
    have hlt : d < w.heap.size := (Array.getElem?_eq_some_iff.1 hd).1
    have hnd := List.nodup_cons.1 hm.1
    refine ⟨by simp, .inl ⟨d, _, rfl, run_takeDeferred hd, leaves_marks hres hR Ds _ ⟨hnd.2, fun x hx => hm.2 x (by simp [hx])⟩ ?_⟩⟩
    have hsub : Inv F0 Ds L ρ blks h w := ⟨hi.1, ⟨hi.2.1.1, fun x hx => hi.2.1.2 x (by simp [hx])⟩, fun b hb => hi.2.2 b (hb.imp id fun h => by simp [h])⟩
    refine hsub.step (by simp) (fun b hb => World.putObj_heap_other fun e => ?_) rfl rfl rfl
    subst e
    rcases hb with (hb | hb) | hb
    · exact hm.2 b (by simp) hb
    · exact hnd.1 hb
    · exact hi.2.2 b (.inr (by simp)) hb
theorem fn_sound {P : Program} {f : FuncId} {fn : Func} (hf : P.funcs[f]? = some fn) (hmix : P.follows .mixedOrders = true) {shs : List Sh} {ann : List LoopAnn} {fuel : Nat} {t : Tree} (ht : fnTree P fn shs ann fuel = t)
    {us : List U} (hus : UsOk shs us) {args : List Value} (hargs : SV.dens [] us (Sh.freshs shs 0).1 = args) {h : HW} {w : World} (hH : h.H w)
    {R : Value → HW → Prop} (hden : den P R (fun _ _ _ => False) t [] us h []) : Calls P f args.toArray w fun e w' => ∃ v, e = .returned v ∧ ∃ h', h'.H w' ∧ Grow h w h' w' ∧ R v h' := by
  subst ht
  unfold fnTree at hden
  cases hb : fn.body with
  | none => simp only [hb] at hden; exact hden.elim
  | some c =>
    simp only [hb] at hden
    have hl : (Sh.freshs shs 0).1.length = args.length := by rw [← hargs, dens_length]
    have he : EnvOk us := fun i v hv => UsOk.env shs us hus v (List.mem_of_getElem? hv)
    refine (callsIn_wide (n := 0)).1 (callsIn_of_wp_marks hf hb trivial ?_)
    have hF : (restOf h w).H w := ⟨Nat.le_refl _, fun _ _ _ => rfl, rfl, rfl, rfl⟩
    refine go_sound fuel R { P, res := some fn.results.toList, ann, joins := (ann.filter (·.join)).map (·.key) } none (fun _ _ _ => False) _ (restOf h w) hmix (fun _ => rfl) ?_ (.code c) [] _ [] [] us h [] (fun _ _ _ => False) _ w hden ?_ he trivial ⟨?_, rfl, ?_⟩ ⟨List.nodup_nil, by simp⟩ ⟨⟨rfl, ?_, List.nodup_nil, by simp, hH⟩, ⟨hF, by simp⟩, fun b q1 q2 => ?_⟩
    · intro Ds e st L ρ h2 A a w1 hd hlen hfr hmo hw
      have fin : ∀ v w2, Wd L ρ st.blks h2 w2 → (restOf h w).H w2 → (∃ h3 : HW, (∀ w, Wd L ρ st.blks h2 w → h3.H w) ∧ (∀ b, h3.own b → h2.own b ∨ b ∈ L) ∧ R v h3) → ∃ h', h'.H w2 ∧ Grow h w h' w2 ∧ R v h' := fun v w2 hw2 hF2 ⟨h3, q1, q2, q3⟩ => by
        refine ⟨h3, q1 w2 hw2, ⟨hF2.1, fun k hk hn => ⟨fun h3k => ?_, hF2.2.1 k hk hn⟩, hF2.2.2.1, hF2.2.2.2.1, hF2.2.2.2.2⟩, q3⟩
        exact hw.2.2 k (.inl ⟨hk, hn⟩) (q2 k h3k)
      have one : ∀ x, resultS st P fn.results.toList = some [x] → x.firm = true → (∃ h3 : HW, (∀ w, Wd L ρ st.blks h2 w → h3.H w) ∧ (∀ b, h3.own b → h2.own b ∨ b ∈ L) ∧ R (x.den L ρ) h3) →
          LeavesInM Fence.wide 0 P fn a.tmps (fun e w' => ∃ v, e = .returned v ∧ ∃ h', h'.H w' ∧ Grow h w h' w' ∧ R v h') a.defers .returning w1 := fun x hx hfirm hR => by
        rw [hfr.df]
        exact leaves_marks (R := fun v w' => ∃ h', h'.H w' ∧ Grow h w h' w' ∧ R v h') (L := L) (ρ := ρ) (blks := st.blks) (fun w hb => results_run hfr hb.blk hx (by simpa using hfirm)) (fun w2 h1 h2 => fin _ w2 h1 h2 hR) Ds w1 hmo hw
      have many : ∀ l, (∀ x, l ≠ [x]) → resultS st P fn.results.toList = some l → l.all SV.firm = true → (∃ h3 : HW, (∀ w, Wd L ρ st.blks h2 w → h3.H w) ∧ (∀ b, h3.own b → h2.own b ∨ b ∈ L) ∧ R ((SV.tup l).den L ρ) h3) →
          LeavesInM Fence.wide 0 P fn a.tmps (fun e w' => ∃ v, e = .returned v ∧ ∃ h', h'.H w' ∧ Grow h w h' w' ∧ R v h') a.defers .returning w1 := fun l hne hx hfirm hR => by
        rw [hfr.df]
        exact leaves_marks (R := fun v w' => ∃ h', h'.H w' ∧ Grow h w h' w' ∧ R v h') (L := L) (ρ := ρ) (blks := st.blks) (v := (SV.tup l).den L ρ) (fun w hb => results_many hfr hb.blk hne hx hfirm) (fun w2 h1 h2 => fin _ w2 h1 h2 hR) Ds w1 hmo hw
      have late : den P R (fun _ _ _ => False) (resT P fn.results.toList st []) L ρ h2 A → LeavesInM Fence.wide 0 P fn a.tmps (fun e w' => ∃ v, e = .returned v ∧ ∃ h', h'.H w' ∧ Grow h w h' w' ∧ R v h') a.defers .returning w1 := fun hd => by
        obtain ⟨_, vs, h1, hR⟩ := resT_run fn.results.toList st ρ [] hlen hfr hd
        rw [hfr.df]
        refine leaves_marks (R := fun v w' => ∃ h', h'.H w' ∧ Grow h w h' w' ∧ R v h') (L := L) (ρ := ρ) (blks := st.blks) (v := finV vs) (fun w2 hb => ?_) (fun w2 h1 h2 => fin _ w2 h1 h2 hR) Ds w1 hmo hw
        have he : results fn a.tmps = (do let vs ← fn.results.mapM (rvS a.tmps); pure (if h : vs.size = 1 then vs[0] else .tuple vs) : Sem Value) := rfl
        rw [he, Array.mapM_eq_mapM_toList, Sem.run_bind, Sem.run_map, h1 w2 hb]
        match vs with
        | [] => rfl
        | [x] => rfl
        | x :: y :: l => rfl
      simp only [retTree] at hd
      cases e with
      | exit id => exact hd.elim
      | normal =>
        simp only at hd
        split at hd
        · exact late hd
        · rename_i x hx
          split at hd
          · rename_i hfirm; exact one x hx hfirm hd
          · exact hd.elim
        · rename_i l hne hx
          split at hd
          · rename_i hfirm; exact many l hne hx hfirm hd
          · exact hd.elim
      | ret =>
        simp only at hd
        split at hd
        · exact late hd
        · rename_i x hx
          split at hd
          · rename_i hfirm; exact one x hx hfirm hd
          · exact hd.elim
        · rename_i l hne hx
          split at hd
          · rename_i hfirm; exact many l hne hx hfirm hd
          · exact hd.elim
    · have := freshs_len shs us 0 hus
      simpa using this.symm
    · simp [hl]
    · intro i x hx
      simp only at hx
      have hsz : args.toArray.size = args.length := by simp
      rcases Nat.lt_or_ge i args.length with hi | hi
      · rw [List.getElem?_append_left (by rw [hl]; exact hi)] at hx
        refine ⟨x.den [] us, ?_, .inr rfl⟩
        rw [Array.getElem?_append_left (by simpa using hi)]
        simp only [List.getElem?_toArray, ← hargs, dens_getElem?, hx, Option.map_some]
      · rw [List.getElem?_append_right (by rw [hl]; exact hi), List.getElem?_replicate] at hx
        split at hx
        · rename_i hlt
          cases hx
          refine ⟨Go.undef, ?_, .inr rfl⟩
          rw [Array.getElem?_append_right (by simpa using hi)]
          simp only [Array.getElem?_replicate, hsz]
          rw [if_pos (by rw [hl] at hlt; exact hlt)]
        · cases hx
    · intro j b hb; simp at hb
    · rcases q1 with q1 | q1
      · rcases q2 with q2 | q2
        · exact q1.2 q2
        · cases q2
      · cases q1
end Go.Sy
