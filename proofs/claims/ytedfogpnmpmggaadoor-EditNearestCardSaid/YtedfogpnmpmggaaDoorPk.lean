/- append to a literal of the call's own: in place where nothing is appended, else in new memory. -/
import Derived.Test.YtedfogpnmpmggaaDoorPj
import Derived.Maps.AppendAt
import Derived.ArgAppend
import Derived.Laws.OwnMore
set_option linter.unusedSimpArgs false
set_option linter.unusedVariables false
namespace Go.Sy
open Go Go.RowKit
section
variable {P : Program} {c : Cx} {L : List Nat} {ρ : Env} {blks : List Blk} {m : Mem} {R : Value → HW → Prop} {Dn : Nat → List U → HW → Prop} {A : List (List U → HW → Prop)}
theorem DenM.appendOwn {p : Bool} {as : Array Operand} {t ty e : TypeId} {size bytes : Nat} {sv xv : SV} {k : Tree} {b0 n : Nat} {xs : List Value} {qx : Option Addr} {kx capx : Nat} {news : List Value} (hE : El P t e size bytes) (hxs : xs.length = n * size) (hown : Good c L m → Cells (vw c L ρ blks m) (some ⟨b0, 0, none⟩) xs)
    (hx : Good c L m → Cells (vw c L ρ blks m) qx news) (hl : news.length = kx * size) (h1 : ∀ u ∈ news, u.oneCell' = true) (hn : qx = none → capx = 0) (h63 : n + kx ≤ maxLen) (hbytes : (n + kx) * bytes ≤ 140737488355328)
    (hk : ∀ q' cap' m', (kx ≠ 0 → Row m' e size q' cap' (n + kx) (xs ++ news) ∧ ∀ g, q' = some ⟨g, 0, none⟩ → m g = none) → (kx = 0 → q' = some ⟨b0, 0, none⟩ ∧ cap' = n) → (∀ b, m b ≠ none → m' b = m b) → DenM P R Dn k L (ρ ++ [.p q', .i (n + kx : Nat), .i (cap' : Nat)]) c m' A)
    (hv : sv.den L ρ = slv (some ⟨b0, 0, none⟩) n n := by rfl) (hxv : xv.den L ρ = slv qx kx capx := by rfl) (hs : scBlks ρ.length blks = true := by rfl) :
    DenM P R Dn (.ext p ⟨.call ⟨.builtin .append, as, #[t, t]⟩, ty, [sv, xv]⟩ .sl blks k) L ρ c m A := .extM hs fun g w hw => by
  obtain ⟨i, z, hi, hz, hsz, hby, hzs⟩ := hE.info
  have hinb : ∀ b, m b ≠ none → b < w.heap.size := fun b hb' => (HW.mem m).inb w b hw.hold.2 hb'
  have hrun : ∀ v' w', (Builtin.append_ #[t, t] ty #[slv (some ⟨b0, 0, none⟩) n n, slv qx kx capx]).run P w = .ok v' w' → (XOp.sem (.call ⟨.builtin .append, as, #[t, t]⟩) ty (SV.dens L ρ [sv, xv])).run P w = .ok (.value v') w' := fun v' w' hr => by
    show (builtin .append #[t, t] ty (as.map fun | .const _ => true | _ => false) #[sv.den L ρ, xv.den L ρ]).run P w = _
    rw [hv, hxv]
    show (do pure (Next.value (← Builtin.append_ #[t, t] ty #[slv (some ⟨b0, 0, none⟩) n n, slv qx kx capx])) : Sem Next).run P w = _
    rw [Sem.run_bind, hr]; rfl
  by_cases hk0 : kx = 0
  · subst hk0
    have hr : (Builtin.append_ #[t, t] ty #[slv (some ⟨b0, 0, none⟩) n n, slv qx 0 capx]).run P w = .ok (slv (some ⟨b0, 0, none⟩) n n) w := by
      rcases qx with _ | xa
      · rw [hn rfl]
        simp [slv, Builtin.append_, run_underlying hE.und, sizeOf, typeInfo, hi, Builtin.lenOf, Builtin.firstCells, storeCells]
      · have := run_append_room_cells w t ty e i hE.und hi b0 0 n n xa 0 capx [] (by simp) (by simp) (by simp) (Nat.le_refl _) (by simp) (by simp)
        exact this.trans rfl
    exact ⟨_, w, none, m, [.p (some ⟨b0, 0, none⟩), .i (n + 0 : Nat), .i (n : Nat)], hrun _ _ hr, ⟨rfl, rfl, rfl, Nat.le_refl _, fun _ _ _ => rfl⟩, fun _ h => (by cases h), fun _ _ _ => rfl, hw.hold.2, fun _ => rfl, ⟨_, _, _, rfl⟩, (slv_fresh ρ L _ _ _).symm,
      hk (some ⟨b0, 0, none⟩) n m (fun h => absurd rfl h) (fun _ => ⟨rfl, rfl⟩) fun _ _ => rfl⟩
  · have hpos := hE.pos
    rcases qx with _ | xa
    · exfalso
      cases news with
      | nil => rcases Nat.mul_eq_zero.1 hl.symm with h | h <;> omega
      | cons a l => obtain ⟨_, _, hc, _⟩ := hx g 0 a rfl; cases hc
    · have hnews : ∀ j u, news[j]? = some u → w.cell? (xa.add j) = some u := fun j u hu => by
        obtain ⟨b, o, hc, hr⟩ := hx g j u hu
        cases hc
        have := vw_cell hw _ _ _ hr
        unfold Mv.of at this
        rw [addr_add]; exact this
      have holds : ∀ j u, xs[j]? = some u → w.cell? (Addr.add ⟨b0, 0, none⟩ j) = some u := fun j u hu => by
        obtain ⟨b, o, hc, hr⟩ := hown g j u hu
        cases hc
        have := vw_cell hw _ _ _ hr
        unfold Mv.of at this
        rw [addr_add]; exact this
      obtain ⟨v', w', hr, ho, hgr⟩ := run_append_arg_grows w t ty e i z size bytes hE.und hi hz hsz hby hzs hE.pos ⟨b0, 0, none⟩ n n xs hxs holds xa kx capx news hl hnews (by omega) h63 hbytes
      rcases ho.2 with ⟨_, h'⟩ | ⟨g', cap', cur, rfl, hge, hg', h5, h6, h7, h8⟩
      · omega
      · have hne : ∀ b, b < w.heap.size → b ≠ g' := fun b hb => by omega
        refine ⟨_, w', none, m.upd g' (.cells cur e (0, 0)), [.p (some ⟨g', 0, none⟩), .i (n + kx : Nat), .i (cap' : Nat)], hrun _ _ hr, hgr, fun _ h => (by cases h), fun b hb _ => Mem.upd_other _ _ (hne b hb), fun b o hbo => ?_, fun _ => rfl, ⟨_, _, _, rfl⟩, (slv_fresh ρ L (some ⟨g', 0, none⟩) (n + kx) cap').symm,
          hk (some ⟨g', 0, none⟩) cap' _ (fun _ => ⟨⟨by rw [List.length_append, hxs, hl, Nat.add_mul], .inr ⟨g', cur, rfl, Mem.upd_same _ _ _, h5, h6, h7, h8⟩⟩, fun g e => by
            cases e
            exact Classical.byContradiction fun hne' => hne _ (hinb _ hne') rfl⟩) (fun h => absurd h hk0) fun b hb => Mem.upd_other _ _ (hne b (hinb b hb))⟩
        by_cases e' : b = g'
        · rw [e', Mem.upd_same] at hbo; cases hbo; rw [e']; exact hg'
        · rw [Mem.upd_other _ _ e'] at hbo
          rw [hgr.block b (hinb b (by rw [hbo]; simp)) (by simp)]; exact hw.hold.2 b o hbo
/-- append to what an append to an empty literal has left. -/
theorem DenM.appendE {as : Array Operand} {t ty e : TypeId} {size bytes : Nat} {sv xv : SV} {k : Tree} {b0 : Nat} {q qx : Option Addr} {cap n kx capx : Nat} {xs news : List Value} (hE : El P t e size bytes) (hR : n ≠ 0 → Row m e size q cap n xs) (h0 : n = 0 → q = some ⟨b0, 0, none⟩ ∧ cap = 0 ∧ xs = []) (hkx : kx ≠ 0)
    (hx : Good c L m → Cells (vw c L ρ blks m) qx news) (hl : news.length = kx * size) (h1 : ∀ u ∈ news, u.oneCell' = true) (hn : qx = none → capx = 0) (h63 : n + kx ≤ maxLen) (hbytes : (n + kx) * bytes ≤ 140737488355328)
    (hk : ∀ q' cap' m', Row m' e size q' cap' (n + kx) (xs ++ news) → (∀ b, (n ≠ 0 → q ≠ some ⟨b, 0, none⟩) → m b ≠ none → m' b = m b) → DenM P R Dn k L (ρ ++ [.p q', .i (n + kx : Nat), .i (cap' : Nat)]) c m' A)
    (hv : sv.den L ρ = slv q n cap := by rfl) (hxv : xv.den L ρ = slv qx kx capx := by rfl) (hs : scBlks ρ.length blks = true := by rfl) :
    DenM P R Dn (.ext false ⟨.call ⟨.builtin .append, as, #[t, t]⟩, ty, [sv, xv]⟩ .sl blks k) L ρ c m A := by
  by_cases hn0 : n = 0
  · obtain ⟨rfl, rfl, rfl⟩ := h0 hn0
    subst hn0
    exact .appendOwn (b0 := b0) (n := 0) (xs := []) hE (by simp) (fun _ i x h => by simp at h) hx hl h1 hn h63 hbytes (fun q' cap' m' a1 _ a3 => hk q' cap' m' (a1 hkx).1 fun b _ hb => a3 b hb) hv hxv hs
  · refine .append hE (hR hn0) hx hl h1 hn h63 hbytes (fun q' cap' m' a1 a2 _ => hk q' cap' m' a1 fun b hb hb' => a2 b (fun ⟨o, ho⟩ => ?_) hb') hv hxv hs
    exfalso
    rcases (hR hn0).2 with ⟨k1, _⟩ | ⟨g, _, k1, _⟩
    · rw [k1] at ho; cases ho
    · rw [k1] at ho; cases ho
      exact hb hn0 k1
theorem Cells.take {V : Mv} {p : Option Addr} {xs ys : List Value} (h : Cells V p (xs ++ ys)) : Cells V p xs := fun i x hx => h i x (by rw [List.getElem?_append_left (List.getElem?_eq_some_iff.1 hx).1]; exact hx)
end
end Go.Sy
