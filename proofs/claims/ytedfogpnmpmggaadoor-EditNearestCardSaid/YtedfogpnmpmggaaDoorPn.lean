/- append beside other operations of one region: the new row is known by its head alone, so that what is written behind it changes nothing that is known. -/
import Derived.Test.YtedfogpnmpmggaaDoorPk
set_option linter.unusedSimpArgs false
set_option linter.unusedVariables false
namespace Go.Sy
open Go Go.RowKit
def HW.rowc (g : Nat) (e : TypeId) (cap size n : Nat) (xs : List Value) : HW where
  H w := ∃ cur : Array Value, w.heap[g]? = some (.cells cur e (0, 0)) ∧ cur.size = cap * size ∧ cur.toList.take (n * size) = xs
  own k := k = g
  stab w w' := fun ⟨cur, h, h2⟩ _ hk _ _ _ => ⟨cur, (hk g rfl).trans h, h2⟩
  inb w k := fun ⟨cur, h, _⟩ hk => by subst hk; exact (Array.getElem?_eq_some_iff.1 h).1
def Cx.rowc (c : Cx) (g : Nat) (e : TypeId) (cap size n : Nat) (xs : List Value) : Cx where
  hb := c.hb.sep (HW.rowc g e cap size n xs)
  R := fun b o => if b = g then xs[o]? else c.R b o
  ok w k o v := fun h hv => by
    split at hv
    · rename_i e'
      subst e'
      obtain ⟨_, cur, h1, h2, h3⟩ := h
      unfold World.cell?
      rw [← h3] at hv
      have hlt := (List.getElem?_eq_some_iff.1 hv).1
      rw [List.getElem?_take_of_lt (by rw [List.length_take] at hlt; omega)] at hv
      simp only [h1]
      simpa using hv
    · exact c.ok w k o v h.1 hv
  own k o v := fun hv => by
    split at hv
    · exact .inr (by assumption)
    · exact .inl (c.own k o v hv)
/-- c2 knows all that c knows. -/
structure Cx.sub (c2 c : Cx) : Prop where
  H : ∀ w, c2.hb.H w → c.hb.H w
  own : ∀ b, c.hb.own b → c2.hb.own b
  R : c.R.le c2.R
theorem Cx.sub_rowc {c : Cx} {g : Nat} {e : TypeId} {cap size n : Nat} {xs : List Value} (hg : ¬ c.hb.own g) : (c.rowc g e cap size n xs).sub c := ⟨fun _ h => h.1, fun _ h => .inl h, fun b o v hv => by
  show (if b = g then xs[o]? else c.R b o) = some v
  rw [if_neg (fun e' : b = g => hg (e' ▸ c.own b o v hv))]; exact hv⟩
theorem Cx.sub.refl (c : Cx) : c.sub c := ⟨fun _ h => h, fun _ h => h, .refl _⟩
section
variable {P : Program} {c : Cx} {L : List Nat} {ρ : Env} {blks : List Blk} {m : Mem} {R : Value → HW → Prop} {Dn : Nat → List U → HW → Prop} {A : List (List U → HW → Prop)}
theorem DenM.retS {c2 : Cx} {x : SV} {Q : Value → Mem → Prop} {v : Value} (hs : c2.sub c) (hv : x.den L ρ = v) (hQ : Q v m) : DenM P (outM c Q) Dn (.ret x blks) L ρ c2 m A :=
  fun g => ⟨c.hw m, fun _ hw => ⟨hs.H _ hw.hold.1, hw.hold.2⟩, fun _ h => .inl (h.imp (hs.own _) id), by rw [hv]; exact ⟨m, fun b hb ho => g.mem b hb (hs.own b ho), rfl, hQ⟩⟩
theorem DenM.extC {p : Bool} {x : XOp} {sh : Sh} {k : Tree} (hs : scBlks ρ.length blks = true) (h : Good c L m → ∀ w, Wd L ρ blks (c.hw m) w → ∃ v w' us c' m', (XOp.sem x.op x.type (SV.dens L ρ x.args)).run P w = .ok (.value v) w' ∧ UOk sh us ∧ v = (sh.fresh ρ.length).1.den L (ρ ++ us) ∧ (w.heap.size ≤ w'.heap.size ∧ w'.tape = w.tape ∧ w'.os = w.os ∧ w'.output = w.output) ∧
      (∀ k, k < w.heap.size → ¬ (c.hw m).own k → ¬ (c'.hw m').own k ∧ w'.heap[k]? = w.heap[k]?) ∧ (c'.hw m').H w' ∧ (p = true → ∀ w, (c'.hw m').H w → (c.hw m).H w) ∧ Good c' L m' ∧ DenM P R Dn k L (ρ ++ us) c' m' A) : DenM P R Dn (.ext p x sh blks k) L ρ c m A := fun g w hw => by
  obtain ⟨v, w', us, c', m', hrun, hus, hv, ⟨h1, h2, h3, h4⟩, hsame, hH, hp, hgood, hk⟩ := h g w hw
  have hn : ∀ b ∈ L, ¬ (c.hw m).own b := fun b hb ho => by
    rcases ho with ho | ho
    · exact (g.blk b hb).2 ho
    · exact ho (g.blk b hb).1
  have hn' : ∀ b ∈ L, ¬ (c'.hw m').own b := fun b hb ho => by
    rcases ho with ho | ho
    · exact (hgood.blk b hb).2 ho
    · exact ho (hgood.blk b hb).1
  have hmem : ∀ (j : Nat) k, blks[j]? = some k → L.getD j 0 ∈ L := fun j k hj => getD_mem (by rw [hw.len]; exact (List.getElem?_eq_some_iff.1 hj).1)
  have hwd : Wd L ρ blks (c'.hw m') w' := ⟨hw.len, fun j k hj => (hsame _ (hw.lt _ (hmem j k hj)) (hn _ (hmem j k hj))).2.trans (hw.blk j k hj), hw.nd, hn', hH⟩
  refine ⟨v, w', hrun, us, c'.hw m', hus, hv, ⟨h1, fun k hk hk' => ?_, h2, h3, h4⟩, fun hpt w2 hw2 => ?_, (Wd.letters hs).2 hwd, hk hgood⟩
  · have := hsame k hk fun ho => hk' (.inl ho)
    refine ⟨fun ho => ?_, this.2⟩
    rcases ho with ho | ho
    · exact this.1 ho
    · exact hk' (.inr ho)
  · have h2 := (Wd.letters hs).1 hw2
    exact ⟨h2.len, h2.blk, h2.nd, hn, hp hpt w2 h2.hold⟩
theorem own_lt {w : World} (hw : Wd L ρ blks (c.hw m) w) {b : Nat} (h : (c.hw m).own b) : b < w.heap.size := (c.hw m).inb w b hw.hold h
/-- What an append that grows leaves, as what is known. -/
theorem DenM.grown {p : Bool} {x : XOp} {k : Tree} {e : TypeId} {size n : Nat} {xs : List Value} {w : World} (g : Good c L m) (hw : Wd L ρ blks (c.hw m) w) {v' : Value} {w' : World} (hn : 0 < n)
    (hrun : (XOp.sem x.op x.type (SV.dens L ρ x.args)).run P w = .ok (.value v') w') (ho : w'.ownsRow w.heap.size e size v' n xs) (hgr : w.grownBy w' none)
    (hk : ∀ g' cap', ¬ c.hb.own g' → m g' = none → n ≤ cap' → DenM P R Dn k L (ρ ++ [.p (some ⟨g', 0, none⟩), .i n, .i cap']) (c.rowc g' e cap' size n xs) m A) :
    ∃ v w' us c' m', (XOp.sem x.op x.type (SV.dens L ρ x.args)).run P w = .ok (.value v) w' ∧ UOk .sl us ∧ v = (Sh.sl.fresh ρ.length).1.den L (ρ ++ us) ∧ (w.heap.size ≤ w'.heap.size ∧ w'.tape = w.tape ∧ w'.os = w.os ∧ w'.output = w.output) ∧
      (∀ k, k < w.heap.size → ¬ (c.hw m).own k → ¬ (c'.hw m').own k ∧ w'.heap[k]? = w.heap[k]?) ∧ (c'.hw m').H w' ∧ (p = true → ∀ w, (c'.hw m').H w → (c.hw m).H w) ∧ Good c' L m' ∧ DenM P R Dn k L (ρ ++ us) c' m' A := by
  rcases ho.2 with ⟨_, h'⟩ | ⟨g', cap', cur, rfl, hge, hg', h5, h6, h7, h8⟩
  · omega
  · have hold : ∀ b, b < w.heap.size → b ≠ g' ∧ w'.heap[b]? = w.heap[b]? := fun b hb => ⟨by omega, hgr.block b hb (by simp)⟩
    have hcn : ¬ c.hb.own g' := fun h => by have := own_lt hw (.inl h); omega
    have hmn : m g' = none := by
      cases h : m g' with
      | none => rfl
      | some o => have := own_lt hw (.inr (by show m g' ≠ none; rw [h]; simp)); omega
    refine ⟨_, w', [.p (some ⟨g', 0, none⟩), .i n, .i cap'], c.rowc g' e cap' size n xs, m, hrun, ⟨_, _, _, rfl⟩, (slv_fresh ρ L (some ⟨g', 0, none⟩) n cap').symm, ⟨hgr.size, hgr.tape, hgr.os, hgr.output⟩, fun k hk hn => ⟨fun ho => ?_, (hold k hk).2⟩, ⟨⟨?_, cur, hg', h7, h8⟩, ?_⟩, fun _ w2 h => ⟨h.1.1, h.2⟩, ⟨fun b hb ho => ?_, fun b hb => ⟨(g.blk b hb).1, fun ho => ?_⟩, g.nd⟩, hk g' cap' hcn hmn h5⟩
    · rcases ho with (ho | ho) | ho
      · exact hn (.inl ho)
      · exact (hold k hk).1 ho
      · exact hn (.inr ho)
    · exact c.hb.stab w w' hw.hold.1 hgr.size (fun b hb => (hold b (own_lt hw (.inl hb))).2) hgr.tape hgr.os hgr.output
    · exact fun b o hb => (hold b (own_lt hw (.inr (by show m b ≠ none; rw [hb]; simp)))).2.trans (hw.hold.2 b o hb)
    · rcases ho with ho | ho
      · exact g.mem b hb ho
      · have ho : b = g' := ho
        rw [ho] at hb; exact hb hmn
    · rcases ho with ho | ho
      · exact (g.blk b hb).2 ho
      · have ho : b = g' := ho
        have := hw.lt b hb; omega
theorem run_app {as : Array Operand} {t ty : TypeId} {sv xv : SV} {v1 v2 v' : Value} {w w' : World} (hv : sv.den L ρ = v1) (hxv : xv.den L ρ = v2) (hr : (Builtin.append_ #[t, t] ty #[v1, v2]).run P w = .ok v' w') : (XOp.sem (.call ⟨.builtin .append, as, #[t, t]⟩) ty (SV.dens L ρ [sv, xv])).run P w = .ok (.value v') w' := by
  show (builtin .append #[t, t] ty (as.map fun | .const _ => true | _ => false) #[sv.den L ρ, xv.den L ρ]).run P w = _
  rw [hv, hxv]
  show (do pure (Next.value (← Builtin.append_ #[t, t] ty #[v1, v2])) : Sem Next).run P w = _
  rw [Sem.run_bind, hr]; rfl
/-- append of some to an empty literal of the call's own. -/
theorem DenM.appendNew {p : Bool} {as : Array Operand} {t ty e : TypeId} {size bytes : Nat} {sv xv : SV} {k : Tree} {b0 : Nat} {xa : Addr} {kx capx : Nat} {news : List Value} (hE : El P t e size bytes) (hkx : 0 < kx)
    (hx : Good c L m → Cells (vw c L ρ blks m) (some xa) news) (hl : news.length = kx * size) (h63 : kx ≤ maxLen) (hbytes : kx * bytes ≤ 140737488355328)
    (hk : ∀ g' cap', ¬ c.hb.own g' → m g' = none → kx ≤ cap' → DenM P R Dn k L (ρ ++ [.p (some ⟨g', 0, none⟩), .i kx, .i cap']) (c.rowc g' e cap' size kx news) m A)
    (hv : sv.den L ρ = slv (some ⟨b0, 0, none⟩) 0 0 := by rfl) (hxv : xv.den L ρ = slv (some xa) kx capx := by rfl) (hs : scBlks ρ.length blks = true := by rfl) :
    DenM P R Dn (.ext p ⟨.call ⟨.builtin .append, as, #[t, t]⟩, ty, [sv, xv]⟩ .sl blks k) L ρ c m A := .extC hs fun g w hw => by
  obtain ⟨i, z, hi, hz, hsz, hby, hzs⟩ := hE.info
  have hnews : ∀ j u, news[j]? = some u → w.cell? (xa.add j) = some u := fun j u hu => by
    obtain ⟨b, o, hc, hr⟩ := hx g j u hu
    cases hc
    have := vw_cell hw _ _ _ hr
    unfold Mv.of at this
    rw [addr_add]; exact this
  obtain ⟨v', w', hr, ho, hgr⟩ := run_append_arg_grows w t ty e i z size bytes hE.und hi hz hsz hby hzs hE.pos ⟨b0, 0, none⟩ 0 0 [] (by simp) (by simp) xa kx capx news hl hnews (by omega) (by omega) (by simpa using hbytes)
  rw [Nat.zero_add, List.nil_append] at ho
  exact DenM.grown (p := p) g hw hkx (run_app hv (hxv.trans (slv_eq _ _ _)) hr) ho hgr hk
/-- append of some to a row known by its head. -/
theorem DenM.appendC {p : Bool} {as : Array Operand} {t ty e : TypeId} {size bytes : Nat} {sv xv : SV} {k : Tree} {gq cap n : Nat} {xs : List Value} {xa : Addr} {kx capx : Nat} {news : List Value} (hE : El P t e size bytes) (hcg : ¬ c.hb.own gq) (hmg : m gq = none) (hn : 0 < n) (hkx : 0 < kx) (hxs : xs.length = n * size) (hnc : n ≤ cap)
    (hx : Good (c.rowc gq e cap size n xs) L m → Cells (vw (c.rowc gq e cap size n xs) L ρ blks m) (some xa) news) (hl : news.length = kx * size) (h1 : ∀ u ∈ news, u.oneCell' = true) (h63 : n + kx ≤ maxLen) (hbytes : (n + kx) * bytes ≤ 140737488355328)
    (hk : ∀ q' cap' c2, c2.sub c → (∀ b o v, q' = some ⟨b, o, none⟩ → ∀ j, (xs ++ news)[j]? = some v → c2.R b (o + j) = some v) → (∃ b, q' = some ⟨b, 0, none⟩) → DenM P R Dn k L (ρ ++ [.p q', .i (n + kx : Nat), .i (cap' : Nat)]) c2 m A)
    (hv : sv.den L ρ = slv (some ⟨gq, 0, none⟩) n cap := by rfl) (hxv : xv.den L ρ = slv (some xa) kx capx := by rfl) (hs : scBlks ρ.length blks = true := by rfl) :
    DenM P R Dn (.ext p ⟨.call ⟨.builtin .append, as, #[t, t]⟩, ty, [sv, xv]⟩ .sl blks k) L ρ (c.rowc gq e cap size n xs) m A := .extC hs fun g w hw => by
  obtain ⟨i, z, hi, hz, hsz, hby, hzs⟩ := hE.info
  have hnews : ∀ j u, news[j]? = some u → w.cell? (xa.add j) = some u := fun j u hu => by
    obtain ⟨b, o, hc, hr⟩ := hx g j u hu
    cases hc
    have := vw_cell hw _ _ _ hr
    unfold Mv.of at this
    rw [addr_add]; exact this
  have hlen : (xs ++ news).length = (n + kx) * size := by rw [List.length_append, hxs, hl, Nat.add_mul]
  obtain ⟨cur, hg, hcs, htake⟩ := hw.hold.1.2
  by_cases hroom : n + kx ≤ cap
  · subst hsz
    have hfit : n * i.size + news.length ≤ cur.size := by rw [hl, hcs, ← Nat.add_mul]; exact Nat.mul_le_mul_right _ hroom
    have hr := run_append_room (P := P) w t ty e i hE.und hi gq n cap cur hg xa kx capx news hl hnews h1 hroom hfit
    refine ⟨_, _, [.p (some ⟨gq, 0, none⟩), .i (n + kx : Nat), .i (cap : Nat)], c.rowc gq e cap i.size (n + kx) (xs ++ news), m, run_app (hv.trans (slv_eq _ _ _)) (hxv.trans (slv_eq _ _ _)) hr, ⟨_, _, _, rfl⟩, ((slv_fresh ρ L (some ⟨gq, 0, none⟩) (n + kx) cap).trans (slv_eq _ _ _)).symm, ⟨by simp, rfl, rfl, rfl⟩, fun k hk hno => ⟨fun ho => hno ?_, setRow_other w gq k _ (fun e' => hno (.inl (.inr e')))⟩, ⟨⟨?_, _, setRow_heap w gq cur _ e _ hg, ?_, ?_⟩, ?_⟩, fun _ w2 h => ⟨⟨h.1.1, ?_⟩, h.2⟩, ⟨g.mem, g.blk, g.nd⟩, hk _ cap _ (Cx.sub_rowc hcg) (fun b o v hq j hj => ?_) ⟨_, rfl⟩⟩
    · exact ho
    · exact c.hb.stab w _ hw.hold.1.1 (by simp) (fun b hb => setRow_other w gq b _ (fun e' => hcg (e' ▸ hb))) rfl rfl rfl
    · simp only [List.size_toArray, List.length_append, List.length_take, List.length_drop, Array.length_toList]
      omega
    · rw [htake, ← hlen]
      exact List.take_left
    · exact fun b o hb => (setRow_other w gq b _ (fun e' => by rw [e', hmg] at hb; cases hb)).trans (hw.hold.2 b o hb)
    · obtain ⟨cur2, k1, k2, k3⟩ := h.1.2
      refine ⟨cur2, k1, k2, ?_⟩
      have := congrArg (List.take (n * i.size)) k3
      rw [List.take_take, Nat.min_eq_left (Nat.mul_le_mul_right _ (by omega)), ← hxs, List.take_left] at this
      rw [← hxs]; exact this
    · cases hq
      show (if gq = gq then (xs ++ news)[0 + j]? else _) = _
      rw [if_pos rfl, Nat.zero_add]; exact hj
  · have holds : ∀ j u, xs[j]? = some u → w.cell? ((⟨gq, 0, none⟩ : Addr).add j) = some u := fun j u hu => by
      rw [addr_add]
      refine (c.rowc gq e cap size n xs).ok w gq (0 + j) u hw.hold.1 ?_
      show (if gq = gq then xs[0 + j]? else _) = _
      rw [if_pos rfl, Nat.zero_add]; exact hu
    obtain ⟨v', w', hr, ho, hgr⟩ := run_append_arg_grows w t ty e i z size bytes hE.und hi hz hsz hby hzs hE.pos ⟨gq, 0, none⟩ n cap xs hxs holds xa kx capx news hl hnews (by omega) h63 hbytes
    exact DenM.grown (p := p) g hw (by omega) (run_app (hv.trans (slv_eq _ _ _)) (hxv.trans (slv_eq _ _ _)) hr) ho hgr fun g' cap' hcn hmn hle => hk _ cap' _ ⟨fun _ h => h.1.1, fun _ h => .inl (.inl h), (Cx.sub_rowc hcg).R.trans (Cx.sub_rowc hcn).R⟩ (fun b o v hq j hj => by
      cases hq
      show (if g' = g' then (xs ++ news)[0 + j]? else _) = _
      rw [if_pos rfl, Nat.zero_add]; exact hj) ⟨_, rfl⟩
end
end Go.Sy
