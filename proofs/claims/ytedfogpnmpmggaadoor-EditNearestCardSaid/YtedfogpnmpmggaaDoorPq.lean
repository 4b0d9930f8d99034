/- make with a length that is not a constant; a store into a row. -/
import Derived.Test.YtedfogpnmpmggaaDoorPn
import Derived.Deep.OwnRows
set_option linter.unusedSimpArgs false
set_option linter.unusedVariables false
namespace Go.Sy
open Go Go.RowKit Go.Deep
section
variable {P : Program} {c : Cx} {L : List Nat} {ρ : Env} {blks : List Blk} {m : Mem} {R : Value → HW → Prop} {Dn : Nat → List U → HW → Prop} {A : List (List U → HW → Prop)}
theorem DenM.make {t e : TypeId} {ty : TypeId} {x y : Operand} {bytes : Nat} {z : Value} {kl kc : IntKind} {lv cv : SV} {k : Tree} (n : Nat) (ht : P.underlying t = some (.slice e)) (hinfo : (P.info? e).map (fun i => (i.zero, i.size, i.bytes)) = some (some z, 1, bytes)) (hz1 : z.cells = #[z]) (hbytes : bytes * n ≤ 281474976710656) (h63 : n ≤ maxLen)
    (hk : ∀ g, m g = none → Row (m.upd g (.cells (madeCells #[z] n) e (0, 0))) e 1 (some ⟨g, 0, none⟩) n n (List.replicate n z) → DenM P R Dn k L (ρ ++ [.p (some ⟨g, 0, none⟩), .i n, .i n]) c (m.upd g (.cells (madeCells #[z] n) e (0, 0))) A)
    (hl : lv.den L ρ = .int kl n := by rfl) (hc : cv.den L ρ = .int kc n := by rfl) (hs : scBlks ρ.length blks = true := by rfl) :
    DenM P R Dn (.ext false ⟨.makeSlice t x y, ty, [lv, cv]⟩ .sl blks k) L ρ c m A := .extM hs fun g w hw => by
  have hr := run_make_row' (P := P) t e z bytes ht hinfo hz1 kl kc n hbytes (by simpa [maxLen] using h63) w
  have hlt : ∀ b, m b ≠ none → b < w.heap.size := fun b hb => (HW.mem m).inb w b hw.hold.2 hb
  have hmn : m w.heap.size = none := by
    cases h : m w.heap.size with
    | none => rfl
    | some o => have := hlt w.heap.size (by rw [h]; simp); omega
  refine ⟨_, w.alloc (.cells (madeCells #[z] n) e), none, m.upd w.heap.size (.cells (madeCells #[z] n) e (0, 0)), [.p (some ⟨w.heap.size, 0, none⟩), .i n, .i n], ?_, World.grownBy_alloc w (.cells (madeCells #[z] n) e) none, fun _ h => (by cases h), fun b hb _ => Mem.upd_other _ _ (by omega), fun b o hb => ?_, fun h => (by cases h), ⟨_, _, _, rfl⟩, ((slv_fresh ρ L (some ⟨w.heap.size, 0, none⟩) n n).trans (slv_eq _ _ _)).symm, hk w.heap.size hmn ⟨by simp, .inr ⟨w.heap.size, _, rfl, Mem.upd_same _ _ _, Nat.le_refl _, h63, by simp [size_madeCells], by rw [toList_madeCells_one]; simp⟩⟩⟩
  · show (do pure (Next.value (← Instr.makeSlice t (lv.den L ρ) (cv.den L ρ))) : Sem Next).run P w = _
    rw [hl, hc, Sem.run_bind, hr]; rfl
  · by_cases e' : b = w.heap.size
    · rw [e', Mem.upd_same] at hb; cases hb; rw [e']; exact heap_alloc_new w _
    · rw [Mem.upd_other _ _ e'] at hb
      have := hlt b (by rw [hb]; simp)
      exact (heap_alloc_old w _ b this).trans (hw.hold.2 b o hb)
theorem Row.cap_le {e : TypeId} {size : Nat} {q : Option Addr} {cap n : Nat} {xs : List Value} (h : Row m e size q cap n xs) : n ≤ cap := by
  rcases h.2 with ⟨_, h1, h2⟩ | ⟨_, _, _, _, h, _⟩ <;> omega
/-- A store into a row of cells, at a place that is checked. -/
theorem DenM.storeR {i : Nat} {I len : IT} {x : SV} {k : Tree} {e : TypeId} {q : Option Addr} {cap n : Nat} {xs : List Value} (j : Nat) (hj : j < n) (hR : Row m e 1 q cap n xs) (hp : ρ.ptr i = q) (hI : I.eval ρ = (j : Int)) (hn : len.eval ρ = (n : Int))
    (hk : ∀ m' g, q = some ⟨g, 0, none⟩ → Row m' e 1 q cap n (xs.set j (x.den L ρ)) → (∀ b, b ≠ g → m' b = m b) → DenM P R Dn k L ρ c m' A) :
    DenM P R Dn (.chk (.pick (.cmp .geq I (.lit 0)) (.pick (.cmp .lss I len) (.some i) (.lit false)) (.lit false)) (.store false i (.off I 1 (.lit 0)) [x] blks k)) L ρ c m A := by
  rcases hR.2 with ⟨_, h, _⟩ | ⟨g, cur, hq, hg, h1, h2, h3, h4⟩
  · omega
  · subst hq
    have hlen : xs.length = n := by rw [hR.1, Nat.mul_one]
    rw [Nat.mul_one] at h3 h4
    refine .chk ?_ (.store g j cur e rfl ?_ hg (by simp; omega) (hk _ g rfl ⟨by rw [List.length_set, Nat.mul_one]; exact hlen, .inr ⟨g, _, rfl, Mem.upd_same _ _ _, h1, h2, ?_, ?_⟩⟩ fun b hb => Mem.upd_other _ _ hb))
    · simp only [BT.eval, IT.eval, hI, hn, hp, cm, pick_and]; simp; omega
    · simp only [atAddr, hp, IT.eval, hI, Option.map_some, addr_add]
      rw [show ((0 : Int) + (j : Int) * ((1 : Nat) : Int)).toNat = j by omega]; simp
    · simp only [putAt, SV.dens, List.size_toArray, List.length_append, List.length_take, List.length_drop, List.length_cons, List.length_nil, Array.length_toList]; omega
    · rw [Nat.mul_one]
      have hput : putAt cur.toList j (SV.dens L ρ [x]) = cur.toList.set j (x.den L ρ) := by
        unfold putAt
        rw [List.set_eq_take_append_cons_drop, if_pos (by simp; omega)]
        simp [SV.dens]
      rw [hput, List.take_set, h4]
end
end Go.Sy
