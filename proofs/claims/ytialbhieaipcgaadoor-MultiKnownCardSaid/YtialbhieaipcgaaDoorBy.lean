/- Chapter 18: slices.Delete. -/
import Derived.Test.YtialbhieaipcgaaDoorBv
import Derived.Lib.SliceRun
import Derived.Laws.Slices
import Derived.Lib.Overlaps
import Derived.Lib.AppendZerosOnto
import Derived.Test.YtialbhieaipcgaaDoorTf
set_option linter.unusedSimpArgs false
set_option linter.unusedVariables false
/- Chapter 18: slices.Delete. -/
namespace Go.Sy
open Go Go.RowKit
theorem run_clear_row {P : Program} (w : World) (t e ty : TypeId) (i : TypeInfo) (z : Value) (ht : P.underlying t = some (.slice e)) (hi : P.info? e = some i) (hz : i.zero = some z) (hzc : z.cells = #[z]) (h1 : z.oneCell' = true) (g o n c : Nat) (hn : 0 < n) (cur : Array Value) (te : TypeId)
    (hg : w.heap[g]? = some (.cells cur te (0, 0))) (hfit : o + n ≤ cur.size) :
    (Builtin.clear_ #[t] ty #[.slice (some ⟨g, o, none⟩) n c]).run P w = .ok (.tuple #[]) (w.setRow g (cur.toList.take o ++ List.replicate n z ++ cur.toList.drop (o + n)).toArray) := by
  have hzl : (Builtin.zeroCells z.cells n).toList = List.replicate n z := by
    rw [hzc]
    simp [Builtin.zeroCells]
    apply List.ext_getElem
    · simp
    · intro i h1 h2
      simp [Nat.mod_one]
  have hst := run_storeCells_at P g o te (List.replicate n z) 0 cur w hg (by simpa using hfit) (by intro v hv; rw [List.eq_of_mem_replicate hv]; exact h1)
  simp only [Nat.add_zero, List.length_replicate] at hst
  obtain ⟨m, rfl⟩ : ∃ m, n = m + 1 := ⟨n - 1, by omega⟩
  simp [Builtin.clear_, run_underlying ht, run_zeroValue' _ hi hz, hzl, hst]
section
variable {P : Program} {c : Cx} {L : List Nat} {ρ : Env} {blks : List Blk} {m : Mem} {R : Value → HW → Prop} {Dn : Nat → List U → HW → Prop} {A : List (List U → HW → Prop)}
/-- append with room, in place. -/
theorem DenM.appendIn {aO : Array Operand} {t ty e : TypeId} {sz bytes : Nat} {sv xv : SV} {k : Tree} {g n cap kx capx : Nat} {a : Addr} {cur : Array Value} {news : List Value} (hE : El P t e sz bytes) (hm : m g = some (.cells cur e (0, 0)))
    (hx : Good c L m → Cells (vw c L ρ blks m) (some a) news) (hn : news.length = kx * sz) (hroom : n + kx ≤ cap) (hfit : n * sz + news.length ≤ cur.size) (h1 : ∀ v ∈ news, v.oneCell' = true)
    (hk : DenM P R Dn k L (ρ ++ [.p (some ⟨g, 0, none⟩), .i (n + kx : Nat), .i (cap : Nat)]) c (m.upd g (.cells (cur.toList.take (n * sz) ++ news ++ cur.toList.drop (n * sz + news.length)).toArray e (0, 0))) A)
    (hv : sv.den L ρ = slv (some ⟨g, 0, none⟩) n cap) (hxv : xv.den L ρ = slv (some a) kx capx) (hs : scBlks ρ.length blks = true := by rfl) :
    DenM P R Dn (.ext false ⟨.call ⟨.builtin .append, aO, #[t, t]⟩, ty, [sv, xv]⟩ .sl blks k) L ρ c m A := .extM hs fun gd w hw => by
  obtain ⟨i, z, hi, hz, hsz, hby, hzs⟩ := hE.info
  have hg := hw.hold.2 g _ hm
  have hsrc : ∀ j u, news[j]? = some u → w.cell? (a.add j) = some u := fun j u hu => by
    obtain ⟨b, o', hc, hr⟩ := hx gd j u hu
    cases hc
    have := vw_cell hw _ _ _ hr
    unfold Mv.of at this
    rw [addr_add]; exact this
  subst hsz
  have hrun := run_append_room (P := P) w t ty e i hE.und hi g n cap cur hg a kx capx news hn hsrc h1 hroom hfit
  refine ⟨slv (some ⟨g, 0, none⟩) (n + kx) cap, w.setRow g (cur.toList.take (n * i.size) ++ news ++ cur.toList.drop (n * i.size + news.length)).toArray, some g, m.upd g (.cells (cur.toList.take (n * i.size) ++ news ++ cur.toList.drop (n * i.size + news.length)).toArray e (0, 0)), [.p (some ⟨g, 0, none⟩), .i (n + kx : Nat), .i (cap : Nat)], ?_, ⟨rfl, rfl, rfl, by simp, fun b _ hb => setRow_other w g b _ fun e' => hb (by rw [e'])⟩, fun g' h => (by cases h; rw [hm]; simp), fun b _ hb => Mem.upd_other _ _ fun e' => hb (by rw [e']), fun b ob hb => ?_, fun h => (by cases h), uOk_of rfl, (slv_fresh ρ L (some ⟨g, 0, none⟩) (n + kx) cap).symm, hk⟩
  · show (builtin .append #[t, t] ty (aO.map fun | .const _ => true | _ => false) #[sv.den L ρ, xv.den L ρ]).run P w = _
    rw [hv, hxv]
    show (do pure (Next.value (← Builtin.append_ #[t, t] ty #[.slice (some ⟨g, 0, none⟩) n cap, .slice (some a) kx capx])) : Sem Next).run P w = _
    rw [Sem.run_bind, hrun]; rfl
  · by_cases e' : b = g
    · subst e'
      rw [Mem.upd_same] at hb; cases hb
      exact setRow_heap w b cur _ e _ hg
    · rw [Mem.upd_other _ _ e'] at hb
      rw [setRow_other w g b _ e']; exact hw.hold.2 b ob hb
/-- clear of some elements of one cell. -/
theorem DenM.clear {aO : Array Operand} {t ty e : TypeId} {sv : SV} {k : Tree} {g o n cc : Nat} {z : Value} {cur : Array Value} (hu : P.underlying t = some (.slice e)) (hi : ∃ i, P.info? e = some i ∧ i.zero = some z) (hzc : z.cells = #[z]) (h1 : z.oneCell' = true) (hn : 0 < n) (hm : m g = some (.cells cur e (0, 0))) (hfit : o + n ≤ cur.size)
    (hk : DenM P R Dn k L ρ c (m.upd g (.cells (cur.toList.take o ++ List.replicate n z ++ cur.toList.drop (o + n)).toArray e (0, 0))) A)
    (hv : sv.den L ρ = .slice (some ⟨g, o, none⟩) n cc) (hs : scBlks ρ.length blks = true := by rfl) :
    DenM P R Dn (.ext false ⟨.call ⟨.builtin .clear, aO, #[t]⟩, ty, [sv]⟩ (.tup []) blks k) L ρ c m A := .extM hs fun gd w hw => by
  obtain ⟨i, hi, hz⟩ := hi
  have hg := hw.hold.2 g _ hm
  have hrun := run_clear_row (P := P) w t e ty i z hu hi hz hzc h1 g o n cc hn cur e hg hfit
  refine ⟨.tuple #[], w.setRow g (cur.toList.take o ++ List.replicate n z ++ cur.toList.drop (o + n)).toArray, some g, m.upd g (.cells (cur.toList.take o ++ List.replicate n z ++ cur.toList.drop (o + n)).toArray e (0, 0)), [], ?_, ⟨rfl, rfl, rfl, by simp, fun b _ hb => setRow_other w g b _ fun e' => hb (by rw [e'])⟩, fun g' h => (by cases h; rw [hm]; simp), fun b _ hb => Mem.upd_other _ _ fun e' => hb (by rw [e']), fun b ob hb => ?_, fun h => (by cases h), uOk_of rfl, rfl, by rw [List.append_nil]; exact hk⟩
  · show (builtin .clear #[t] ty (aO.map fun | .const _ => true | _ => false) #[sv.den L ρ]).run P w = _
    rw [hv]
    show (do pure (Next.value (← Builtin.clear_ #[t] ty #[.slice (some ⟨g, o, none⟩) n cc])) : Sem Next).run P w = _
    rw [Sem.run_bind, hrun]; rfl
  · by_cases e' : b = g
    · subst e'
      rw [Mem.upd_same] at hb; cases hb
      exact setRow_heap w b cur _ e _ hg
    · rw [Mem.upd_other _ _ e'] at hb
      rw [setRow_other w g b _ e']; exact hw.hold.2 b ob hb
/-- A slice of a slice, with a capacity. -/
theorem DenM.slice3 {t ty e : TypeId} {x y z u : Operand} {sv lo hi mx : SV} {k : Tree} {g a b d n cap : Nat} (hu : P.underlying t = some (.slice e)) (hz : (P.info? e).map (·.size) = some 1) (hab : a ≤ b) (hbd : b ≤ d) (hd : d ≤ cap) (had : a < d)
    (hv : sv.den L ρ = slv (some ⟨g, 0, none⟩) n cap) (hlo : lo.den L ρ = .int .i64 a) (hhi : hi.den L ρ = .int .i64 b) (hmx : mx.den L ρ = .int .i64 d)
    (hk : DenM P R Dn k L (ρ ++ [.p (some ⟨g, a, none⟩), .i (b - a : Nat), .i (d - a : Nat)]) c m A) :
    DenM P R Dn (.extp ⟨.slice t x (some y) (some z) (some u), ty, [sv, lo, hi, mx]⟩ .sl blks k) L ρ c m A := by
  refine .extp _ (uOk_of rfl) (fun _ w _ => ?_) hk
  show (XOp.sem (.slice t x (some y) (some z) (some u)) ty [sv.den L ρ, lo.den L ρ, hi.den L ρ, mx.den L ρ]).run P w = _
  rw [hv, hlo, hhi, hmx, slv_fresh]
  have hel : P.elem t = e := by simp [Program.elem, hu]
  show (do pure (Next.value (← Instr.sliceAt t (.slice (some ⟨g, 0, none⟩) n cap) (some (.int .i64 (a : Int))) (some (.int .i64 (b : Int))) (some (.int .i64 (d : Int))))) : Sem Next).run P w = _
  rw [Sem.run_bind, run_sliceAt_slice _ _ _ _ _ _ (by rw [hel]; exact hu), run_slice_lhm _ _ _ _ _ (by rw [hel]; exact hu) .i64 .i64 .i64 (a : Int) (b : Int) (d : Int) (by omega) (by omega) (by omega) (by omega), hel]
  have hs : (Go.sizeOf e).run P w = .ok 1 w := by
    cases hi : P.info? e with
    | none => rw [hi] at hz; cases hz
    | some i =>
      rw [hi] at hz
      have : i.size = 1 := by simpa using hz
      simp [Go.sizeOf, typeInfo, hi, this]
  rw [hs]
  show Result.ok (Next.value (sliced (some ⟨g, 0, none⟩) a b d 1)) w = _
  congr 2
  unfold sliced slv
  rw [if_neg (by omega)]
  show Value.slice (some ((⟨g, 0, none⟩ : Addr).add (a * 1))) _ _ = _
  rw [Nat.mul_one, addr_add, Nat.zero_add]
  simp [addr_zero]
end
theorem Mem.upd_upd (m : Mem) (g : Nat) (x y : Obj) : (m.upd g x).upd g y = m.upd g y := by
  funext b
  by_cases h : b = g
  · subst h; rw [Mem.upd_same, Mem.upd_same]
  · rw [Mem.upd_other _ _ h, Mem.upd_other _ _ h, Mem.upd_other _ _ h]
end Go.Sy
namespace Go.Proofs.YtialbhieaipcgaaDoor
open Go Go.Sy Go.RowKit
theorem infoI : ∃ i, Tryd.prog.info? 3 = some i ∧ i.zero = some (.int .i64 0) := by
  obtain ⟨i, z, hi, hz, _⟩ := elI.info
  exact ⟨i, hi, by
    have : (Tryd.prog.info? 3).map (fun i => i.zero) = some (some (.int .i64 0)) := by kernel_rfl
    rw [hi] at this; simpa using this⟩
theorem sizeI : (Tryd.prog.info? 3).map (·.size) = some 1 := by kernel_rfl
theorem c_Delete (mo : Mem) (g cq : Nat) (cur : Array Value) (l : List Int) (k : Nat) (hk : k < l.length) (hl : l.length ≤ cq) (hc : cq ≤ maxLen) (hsz : cur.size = cq) (hcur : cur.toList.take l.length = intsL l) (hm : mo g = some (.cells cur 3 (0, 0))) :
    FnO Tryd.prog n_slices_Delete___int_int_ [slv (some ⟨g, 0, none⟩) l.length cq, .int .i64 (k : Int), .int .i64 (ar .add .i64 (k : Int) 1)] mo fun v mq => ∃ l', l' = l.eraseIdx k ∧ v = slv (some ⟨g, 0, none⟩) l'.length cq ∧ Row mq 3 1 (some ⟨g, 0, none⟩) cq l'.length (intsL l') ∧ (∀ b, b ≠ g → mq b = mo b) := by
  have hlm : (l.length : Int) ≤ 9223372036854775807 := by simp only [maxLen] at hc; omega
  have hk1 : ar .add .i64 (k : Int) 1 = ((k + 1 : Nat) : Int) := by rw [addI (by omega) (by omega)]; omega
  rw [hk1]
  have hel : (l.eraseIdx k).length = l.length - 1 := by rw [List.length_eraseIdx, if_pos hk]
  have hcl : cur.toList.length = cq := by simpa using hsz
  have hcells : ∀ i, i < l.length → cur[i]? = some (.int .i64 (labAt l i)) := fun i hi => by
    have h1 := intsL_at l i hi
    rw [← hcur, List.getElem?_take_of_lt hi] at h1
    simpa using h1
  refine FnO.of S_slices_Delete___int_int_ mx [.p (some ⟨g, 0, none⟩), .i l.length, .i cq, .i k, .i (k + 1 : Nat)] rfl rfl fun c => .chk (by ((try simp only [evE, liE, letsOf, letU, snd]); (try simp only [cmE])); omega) ?_
  refine .slice3 (g := g) (a := k) (b := k + 1) (d := l.length) (n := l.length) (cap := cq) elI.und sizeI (by omega) (by omega) hl hk rfl rfl rfl rfl ?_
  refine .env (by (try simp only [liE, letsOf, letU, snd, List.append_nil]); rfl) (.no (by ((try simp only [evE, liE, letsOf, letU, snd]); (try simp only [cmE])); omega) (.chk (by ((try simp only [evE, liE, letsOf, letU, snd]); (try simp only [cmE])); omega) (.chk (by ((try simp only [evE, liE, letsOf, letU, snd]); (try simp only [cmE])); omega) (.chk (by ((try simp only [evE, liE, letsOf, letU, snd]); (try simp only [cmE])); omega) ?_))))
  have hdrop : ∀ j u, (intsL (l.drop (k + 1)))[j]? = some u → cur[k + 1 + j]? = some u := fun j u hu => by
    have hj : j < (l.drop (k + 1)).length := by
      have := (List.getElem?_eq_some_iff.1 hu).1
      rwa [intsL_len] at this
    rw [List.length_drop] at hj
    rw [hcells _ (by omega)]
    rw [intsL_at _ _ (by rw [List.length_drop]; exact hj)] at hu
    rw [← hu]
    congr 2
    unfold labAt
    rw [List.getElem?_drop]
  have hnl : (intsL (l.drop (k + 1))).length = (l.length - (k + 1)) * 1 := by rw [intsL_len, List.length_drop, Nat.mul_one]
  refine .appendIn (g := g) (n := k) (cap := cq) (kx := l.length - (k + 1)) (capx := cq - (k + 1)) (a := if cq = k + 1 then ⟨g, 0, none⟩ else ⟨g, k + 1, none⟩) (cur := cur) (news := intsL (l.drop (k + 1))) elI hm (fun gd j u hu => ?_) hnl (by omega) (by rw [hnl]; omega) (intsL_one _) ?_ ?_ ?_
  · have hj : j < (l.drop (k + 1)).length := by
      have := (List.getElem?_eq_some_iff.1 hu).1
      rwa [intsL_len] at this
    rw [List.length_drop] at hj
    rw [if_neg (by omega)]
    exact ⟨g, k + 1, rfl, by rw [vw_mem gd hm]; exact hdrop j u hu⟩
  · have e1 : k + (l.length - (k + 1)) = l.length - 1 := by omega
    rw [e1, Nat.mul_one]
    refine .env (by (try simp only [liE, letsOf, letU, snd, List.append_nil]); rfl) (.chk (by ((try simp only [evE, liE, letsOf, letU, snd]); (try simp only [cmE])); omega) (.chk (by ((try simp only [evE, liE, letsOf, letU, snd]); (try simp only [cmE])); omega) ?_))
    have hcs : (cur.toList.take k ++ intsL (l.drop (k + 1)) ++ cur.toList.drop (k + (intsL (l.drop (k + 1))).length)).toArray.size = cq := by
      simp only [List.size_toArray, List.length_append, List.length_take, List.length_drop, hcl, intsL_len]; omega
    refine .clear (g := g) (o := l.length - 1) (n := 1) (cc := cq - (l.length - 1)) (z := .int .i64 0) elI.und infoI rfl rfl (by omega) (Mem.upd_same ..) (by rw [hcs]; omega) ?_ ?_
    · have hA : (cur.toList.take k ++ intsL (l.drop (k + 1)) ++ cur.toList.drop (k + (intsL (l.drop (k + 1))).length)).length = cq := by simpa using hcs
      have hct : cur.toList.take k = intsL (l.take k) := by
        have h1 : (cur.toList.take l.length).take k = cur.toList.take k := by rw [List.take_take, Nat.min_eq_left (by omega)]
        rw [← h1, hcur]; unfold intsL; rw [List.map_take]
      rw [Mem.upd_upd]
      refine .retL rfl fun gd => ⟨l.eraseIdx k, rfl, ?_, ⟨by rw [intsL_len, Nat.mul_one], .inr ⟨g, _, rfl, Mem.upd_same .., by omega, hc, ?_, ?_⟩⟩, fun b hb => Mem.upd_other _ _ hb⟩
      · show Value.slice ((some (⟨g, 0, none⟩ : Addr)).map fun a => a.add 0) _ _ = _
        rw [hel]
        show Value.slice (some ((⟨g, 0, none⟩ : Addr).add 0)) (((l.length - 1 : Nat) : Int)).toNat ((cq : Int)).toNat = slv _ _ _
        rw [addr_add, Int.toNat_natCast, Int.toNat_natCast]; rfl
      · simp only [List.size_toArray, List.length_append, List.length_take, List.length_drop, List.length_replicate, hA]; omega
      · rw [Nat.mul_one, hel]
        show (List.take (l.length - 1) (cur.toList.take k ++ intsL (l.drop (k + 1)) ++ cur.toList.drop (k + (intsL (l.drop (k + 1))).length)) ++ List.replicate 1 (Value.int .i64 0) ++ List.drop (l.length - 1 + 1) (cur.toList.take k ++ intsL (l.drop (k + 1)) ++ cur.toList.drop (k + (intsL (l.drop (k + 1))).length))).take (l.length - 1) = _
        rw [List.append_assoc, List.take_append_of_le_length (by rw [List.length_take, hA]; omega), List.take_take, Nat.min_self, List.take_append_of_le_length (by rw [List.length_append, List.length_take, intsL_len, List.length_drop, hcl]; omega),
          List.take_of_length_le (by rw [List.length_append, List.length_take, intsL_len, List.length_drop, hcl]; omega), hct, List.eraseIdx_eq_take_drop_succ]
        unfold intsL; rw [List.map_append]
    · show Value.slice ((some (⟨g, 0, none⟩ : Addr)).map fun a => a.add (if (cq : Int) = ((l.length - 1 : Nat) : Int) then (0 : Int) else (0 + ((l.length - 1 : Nat) : Int) * ((1 : Nat) : Int))).toNat) ((l.length : Int) - ((l.length - 1 : Nat) : Int)).toNat ((cq : Int) - ((l.length - 1 : Nat) : Int)).toNat = _
      rw [if_neg (by omega), show (0 + ((l.length - 1 : Nat) : Int) * ((1 : Nat) : Int)).toNat = l.length - 1 by omega, show ((l.length : Int) - ((l.length - 1 : Nat) : Int)).toNat = 1 by omega, show ((cq : Int) - ((l.length - 1 : Nat) : Int)).toNat = cq - (l.length - 1) by omega]
      show Value.slice (some ((⟨g, 0, none⟩ : Addr).add (l.length - 1))) _ _ = _
      rw [addr_add, Nat.zero_add]
  · show Value.slice ((some (⟨g, 0, none⟩ : Addr)).map fun a => a.add (if (cq : Int) = 0 then (0 : Int) else 0).toNat) ((k : Int)).toNat ((cq : Int)).toNat = _
    rw [ite_self]
    show Value.slice (some ((⟨g, 0, none⟩ : Addr).add 0)) _ _ = _
    rw [addr_add, Int.toNat_natCast, Int.toNat_natCast]; rfl
  · show Value.slice ((some (⟨g, 0, none⟩ : Addr)).map fun a => a.add (if (cq : Int) = ((k + 1 : Nat) : Int) then (0 : Int) else (0 + ((k + 1 : Nat) : Int) * ((1 : Nat) : Int))).toNat) ((l.length : Int) - ((k + 1 : Nat) : Int)).toNat ((cq : Int) - ((k + 1 : Nat) : Int)).toNat = _
    rw [show ((l.length : Int) - ((k + 1 : Nat) : Int)).toNat = l.length - (k + 1) by omega, show ((cq : Int) - ((k + 1 : Nat) : Int)).toNat = cq - (k + 1) by omega]
    by_cases h : cq = k + 1
    · rw [if_pos (by omega), if_pos h]
      show Value.slice (some ((⟨g, 0, none⟩ : Addr).add 0)) _ _ = _
      rw [addr_add]; rfl
    · rw [if_neg (by omega), if_neg h, show (0 + ((k + 1 : Nat) : Int) * ((1 : Nat) : Int)).toNat = k + 1 by omega]
      show Value.slice (some ((⟨g, 0, none⟩ : Addr).add (k + 1))) _ _ = _
      rw [addr_add, Nat.zero_add]; rfl
end Go.Proofs.YtialbhieaipcgaaDoor
/- Chapter 18: an alignment without a word. -/
namespace Go.Sy
open Go Go.RowKit
def hasS (col : List Int) : Bool := col.any fun x => x != -1
def withoutS (cols : List (List Int)) (k : Nat) : List (List Int) := (cols.map (·.eraseIdx k)).filter hasS
theorem withoutS_succ {cols : List (List Int)} {k j : Nat} (hj : j < cols.length) : withoutS (cols.take (j + 1)) k = withoutS (cols.take j) k ++ (if hasS (cols[j].eraseIdx k) = true then [cols[j].eraseIdx k] else []) := by
  unfold withoutS
  rw [List.take_succ_eq_append_getElem hj, List.map_append, List.filter_append]
  congr 1
  rw [List.map_singleton]
  cases h : hasS (cols[j].eraseIdx k) <;> simp [List.filter, h]
theorem withoutS_len (cols : List (List Int)) (k : Nat) : (withoutS cols k).length ≤ cols.length := by
  unfold withoutS
  refine Nat.le_trans (List.length_filter_le ..) ?_
  rw [List.length_map]; exact Nat.le_refl _
def Mem.one (m : Mem) (g : Nat) : Mem := fun b => if b = g then m b else none
theorem Mem.one_same (m : Mem) (g : Nat) : m.one g g = m g := if_pos rfl
theorem Mem.one_other (m : Mem) {g b : Nat} (h : b ≠ g) : m.one g b = none := if_neg h
theorem Mem.one_sub {m : Mem} {g b : Nat} {o : Obj} (h : m.one g b = some o) : m b = some o := by
  unfold Mem.one at h; split at h
  · exact h
  · cases h
/-- A slice as an argument. -/
structure IR.ok (r : IR) : Prop where
  le : r.l.length ≤ r.cap
  nil : r.p = none → r.cap = 0
  small : r.l.length < 2 ^ 40
end Go.Sy
namespace Go.Proofs.YtialbhieaipcgaaDoor
open Go Go.Sy Go.RowKit
/-- Rows of numbers, of which more are appended. -/
structure TabR (m : Mem) (q : Option Addr) (cq : Nat) (rs : List IR) : Prop where
  out : Row m 49 1 q cq rs.length (rs.map IR.v)
  rows : ∀ r ∈ rs, RowI m r.p r.cap r.l
theorem TabR.nil (m : Mem) : TabR m none 0 [] := ⟨Row.nil m 49 1, fun _ h => by cases h⟩
theorem TabR.le {m m' : Mem} {q : Option Addr} {cq : Nat} {rs : List IR} (h : TabR m q cq rs) (hle : m.le m') : TabR m' q cq rs := ⟨Row.le h.out hle, fun r hr => (h.rows r hr).le' hle⟩
theorem TabR.tab {m : Mem} {q : Option Addr} {cq : Nat} {rs : List IR} (h : TabR m q cq rs) : TabI m q cq rs := ⟨fun _ => h.out, h.rows, cap0_of h.out, h.out.cap_le⟩
theorem TabR.push {m m' : Mem} {q q' : Option Addr} {cq cq' : Nat} {rs : List IR} {r : IR} (h : TabR m q cq rs) (hr : RowI m r.p r.cap r.l) (ho : Row m' 49 1 q' cq' (rs.length + 1) (rs.map IR.v ++ [r.v])) (hk : ∀ b, ((∃ o, q = some ⟨b, o, none⟩) → cq < rs.length + 1) → m b ≠ none → m' b = m b) : TabR m' q' cq' (rs ++ [r]) :=
  ⟨by rw [List.length_append, List.map_append]; exact ho, fun x hx => by
    rcases List.mem_append.1 hx with hx | hx
    · exact (h.rows x hx).keepA h.out hk
    · rw [List.mem_singleton] at hx; subst hx; exact hr.keepA h.out hk⟩
theorem c_without1 (x : Int) : FnM Tryd.prog n_multi_without_1 [.int .i64 x] (fun _ => True) fun v _ _ => v = .bool (x != -1) :=
  FnM.of S_multi_without_1 mx [.i x] rfl rfl fun c _ => .ret rfl rfl
theorem c_without (pc : Option Addr) (cc : Nat) (rs : List IR) (k : Nat) (hr : rs.length ≤ 1048576) (hok : ∀ r ∈ rs, r.ok ∧ k < r.l.length) :
    FnM Tryd.prog n_multi_without [slv pc rs.length cc, .int .i64 (k : Int)] (fun R => RowsAt R pc rs) fun v mq _ => ∃ q cq rs', v = slv q rs'.length cq ∧ rs'.map (·.l) = withoutS (rs.map (·.l)) k ∧ TabI mq q cq rs' := by
  have hclen : (rs.map (·.l)).length = rs.length := List.length_map _
  refine FnM.of S_multi_without mx [.p pc, .i rs.length, .i cc, .i k] rfl rfl fun c hp => .chk (by ((try simp only [evE, liE, letsOf, letU, snd]); (try simp only [cmE])); omega) ?_
  refine .loop (fun n us m => ∃ (q : Option Addr) (cq : Nat) (rs' : List IR) (j : Nat), j ≤ rs.length ∧ us = [.p q, .i rs'.length, .i cq, .i j] ∧ n = rs.length - j ∧ rs'.map (·.l) = withoutS ((rs.map (·.l)).take j) k ∧ TabR m q cq rs') rs.length ⟨none, 0, [], 0, Nat.zero_le _, rfl, rfl, rfl, .nil _⟩ ?_
  rintro n _ m _ ⟨q, cq, rs', j, hj, rfl, rfl, hrs, hT⟩
  have hlen : rs'.length ≤ j := by
    have h1 := congrArg List.length hrs
    have h2 := withoutS_len ((rs.map (·.l)).take j) k
    rw [List.length_map] at h1
    rw [List.length_take] at h2
    omega
  refine .env (by (try simp only [liE, letsOf, letU, snd, List.append_nil]); rfl) (.ite (fun h1 => ?_) (fun h1 => .ret rfl ⟨q, cq, rs', rfl, ?_, hT.tab⟩)) <;> ((try simp only [evE, liE, letsOf, letU, snd] at h1); (try simp only [cmE] at h1))
  · have hj : j < rs.length := by omega
    obtain ⟨hrok, hkl⟩ := hok _ (List.getElem_mem hj)
    have hsucc := withoutS_succ (cols := rs.map (·.l)) (k := k) (j := j) (by rw [hclen]; exact hj)
    rw [List.getElem_map] at hsucc
    refine .loadSl (rs.map IR.v) j rs.length rs[j].p rs[j].l.length rs[j].cap hj (row_at rs j hj) (fun g => hp.1.mono g.R) (.env (by (try simp only [liE, letsOf, letU, snd, List.append_nil]); rfl) (.callM (c_cloneI rs[j].p rs[j].cap rs[j].l hrok.le hrok.nil hrok.small) rfl rfl (fun g => (hp.2 _ (List.getElem_mem hj)).mono g.R) ?_))
    rintro v mq hfr ⟨q1, c1, rfl, hr1⟩
    have hR1 := hr1.row (fun e => by rw [e] at hkl; simp at hkl)
    rcases hR1.2 with ⟨_, h, _⟩ | ⟨g, cur, rfl, hg, g1, g2, g3, g4⟩
    · omega
    rw [Nat.mul_one] at g3 g4
    have hmg : m g = none := (hfr g (by rw [hg]; simp)).1
    have hjg : (m.join mq) g = some (.cells cur 3 (0, 0)) := by rw [join_new hmg, hg]
    have hmle : m.le (m.join mq) := fun b o hb => by rw [join_old (by rw [hb]; simp), hb]
    generalize m.join mq = m1 at hjg hmle
    refine ⟨[.p (some ⟨g, 0, none⟩), .i (rs[j].l.length : Nat), .i (c1 : Nat)], uOk_of rfl, (slv_fresh _ _ _ _ _).symm, .env (by (try simp only [liE, letsOf, letU, snd, List.append_nil]); rfl) (.callO (c_Delete (m1.one g) g c1 cur rs[j].l k hkl g1 g2 g3 g4 (by rw [Mem.one_same]; exact hjg)) rfl rfl (fun b o hb => Mem.one_sub hb) ?_)⟩
    rintro v mq2 hfr2 ⟨l', hl', rfl, hR2, hoth⟩
    have hm2 : ∀ b, b ≠ g → ((m1.minus (m1.one g)).join mq2) b = m1 b := fun b hb => by
      have h0 : m1.one g b = none := Mem.one_other m1 hb
      have h1 : (m1.minus (m1.one g)) b = m1 b := by unfold Mem.minus; rw [h0]
      unfold Mem.join
      rw [h1]
      cases e : m1 b with
      | some o => rfl
      | none => show mq2 b = none; rw [hoth b hb, h0]
    have hmg2 : ((m1.minus (m1.one g)).join mq2) g = mq2 g := minus_join (.inl (by rw [Mem.one_same, hjg]; simp))
    have hle2 : m.le ((m1.minus (m1.one g)).join mq2) := fun b o hb => by
      rw [hm2 b (fun e => by rw [e, hmg] at hb; cases hb)]
      exact hmle b o hb
    have hR : Row ((m1.minus (m1.one g)).join mq2) 3 1 (some ⟨g, 0, none⟩) c1 l'.length (intsL l') := hR2.keep fun g' hg' _ => by cases hg'; exact hmg2
    generalize (m1.minus (m1.one g)).join mq2 = m2 at hR hle2
    have hT2 := hT.le hle2
    have hl'len : l'.length ≤ rs[j].l.length := by rw [hl', List.length_eraseIdx]; split <;> omega
    have hsm := hrok.small
    have kc := c_containsI (some ⟨g, 0, none⟩) c1 l' (.func (.func n_multi_without_1) #[] #[]) rfl (fun x => x != -1) (by omega) (fun x _ => .of0 (by kernel_rfl) (c_without1 x))
    refine ⟨[.p (some ⟨g, 0, none⟩), .i (l'.length : Nat), .i (c1 : Nat)], uOk_of rfl, (slv_fresh _ _ _ _ _).symm, .env (by (try simp only [liE, letsOf, letU, snd, List.append_nil]); rfl) (.callV kc (fun gd => hR.reads gd) (.env (by (try simp only [liE, letsOf, letU, snd, List.append_nil]); rfl) ?_))⟩
    refine .join (fun us m => ∃ (q' : Option Addr) (cq' : Nat) (rs2 : List IR), us = [.p q', .i rs2.length, .i cq'] ∧ rs2.map (·.l) = withoutS ((rs.map (·.l)).take (j + 1)) k ∧ TabR m q' cq' rs2) (.ite (fun h2 => ?_) (fun h2 => .again rfl ⟨q, cq, rs', by (simp only [evE, liE, letsOf, letU, snd, Sh.uss, Sh.us, atAddr, map_add0, List.append_nil]), ?_, hT2⟩)) ?_
    · replace h2 : hasS l' = true := h2
      refine .alloc' fun b0 _ hb0 _ => .append (q := q) (cap := cq) (n := rs'.length) (qx := some ⟨b0, 0, none⟩) (kx := 1) (capx := 1) (news := [slv (some ⟨g, 0, none⟩) l'.length c1]) elT hT2.out (fun gd => gd.cells (j := 0) rfl rfl rfl) rfl (by simp [slv, Value.oneCell']) (fun h => by cases h) (by simp [maxLen]; omega) (by omega) (fun q' cap' m' hr' hk' hq' => .againL rfl fun gd => ⟨q', cap', rs' ++ [⟨some ⟨g, 0, none⟩, c1, l'⟩], ?_, ?_, ?_⟩)
      · (simp only [evE, liE, letsOf, letU, snd, Sh.uss, Sh.us, atAddr, map_add0, List.append_nil]); rw [List.length_append]; rfl
      · rw [List.map_append, hrs, hsucc, ← hl', if_pos h2]; rfl
      · have hb0' : m' b0 = none := (gd.blk b0 (by simp)).1
        have hT3 : TabR m' q' cap' (rs' ++ [⟨some ⟨g, 0, none⟩, c1, l'⟩]) := hT2.push (RowI.of hR) hr' hk'
        exact hT3.le fun b o hb => by
          show Mem.upd m' b0 _ b = some o
          rw [Mem.upd_other _ _ (fun e => by rw [e, hb0'] at hb; cases hb)]; exact hb
    · replace h2 : hasS l' = false := h2
      rw [hrs, hsucc, ← hl', if_neg (by simp [h2]), List.append_nil]
    · rintro us m3 _ ⟨q', cq', rs2, rfl, h3, h4⟩
      refine .env (by (try simp only [liE, letsOf, letU, snd, List.append_nil]); rfl) (.again rfl ⟨rs.length - (j + 1), by omega, q', cq', rs2, j + 1, by omega, ?_, rfl, h3, h4⟩)
      (simp only [evE, liE, letsOf, letU, snd, Sh.uss, Sh.us, atAddr, map_add0, List.append_nil]); rw [add_i64 j (by omega)]
  · rw [hrs, List.take_of_length_le (by rw [hclen]; omega)]
end Go.Proofs.YtialbhieaipcgaaDoor
/- Chapter 18: an alignment without a word, in the reference; Without. -/
namespace Go.Sy
open Go Go.RowKit
section
variable {P : Program} {c : Cx} {L : List Nat} {ρ : Env} {blks : List Blk} {m : Mem} {R : Value → HW → Prop} {Dn : Nat → List U → HW → Prop} {A : List (List U → HW → Prop)}
end
end Go.Sy
namespace Go.Proofs.YtialbhieaipcgaaDoor
open Go Go.Sy Go.RowKit
theorem c_named (p pc : Option Addr) (cp cc : Nat) (l : List WD) (rs : List IR) (k : Int) (hl : l.length < 2 ^ 62) (hr : rs.length < 2 ^ 62) (hok : ∀ x ∈ l, Wok x.w) (hrl : ∀ r ∈ rs, r.l.length < 2 ^ 62) :
    RetP Tryd.prog n_multi_named [slv p l.length cp, slv pc rs.length cc, .int .i64 k] (fun R => WordsAt R p l ∧ RowsAt R pc rs) (.int .i64 (if checkA (l.map (·.w)) (rs.map (·.l)) ≠ 0 then checkA (l.map (·.w)) (rs.map (·.l)) else if k < 0 ∨ (l.length : Int) ≤ k then 3 else 0)) := by
  refine Fn.of S_multi_named mx [.p p, .i l.length, .i cp, .p pc, .i rs.length, .i cc, .i k] rfl rfl fun c hp => .callV (c_Check p pc cp cc l rs hl hr hok hrl) (fun g => ⟨hp.1.mono g.R, hp.2.mono g.R⟩) (.ite (fun h1 => .ite (fun h2 => .ret rfl ?_) (fun h2 => .chk (by ((try simp only [evE, liE, letsOf, letU, snd]); (try simp only [cmE])); omega) (.ite (fun h3 => .ret rfl ?_) (fun h3 => .ret rfl ?_)))) (fun h1 => .ret rfl ?_)) <;> ((try simp only [evE, liE, letsOf, letU, snd] at h1); (try simp only [cmE] at h1))
  · ((try simp only [evE, liE, letsOf, letU, snd] at h2); (try simp only [cmE] at h2)); ((try simp only [evE, liE, letsOf, letU, snd]); (try simp only [cmE])); rw [if_neg (by simp [h1]), if_pos (.inl h2)]
  · ((try simp only [evE, liE, letsOf, letU, snd] at h2); (try simp only [cmE] at h2)); ((try simp only [evE, liE, letsOf, letU, snd] at h3); (try simp only [cmE] at h3)); ((try simp only [evE, liE, letsOf, letU, snd]); (try simp only [cmE])); rw [if_neg (by simp [h1]), if_pos (.inr h3)]
  · ((try simp only [evE, liE, letsOf, letU, snd] at h2); (try simp only [cmE] at h2)); ((try simp only [evE, liE, letsOf, letU, snd] at h3); (try simp only [cmE] at h3)); ((try simp only [evE, liE, letsOf, letU, snd]); (try simp only [cmE])); rw [if_neg (by simp [h1]), if_neg (by omega), h1]
  · ((try simp only [evE, liE, letsOf, letU, snd]); (try simp only [cmE])); rw [if_pos h1]
end Go.Proofs.YtialbhieaipcgaaDoor
/- Chapter 18: Without. -/
namespace Go.Sy
open Go Go.RowKit
def withoutE (ws : List (List Snd)) (cols : List (List Int)) (k : Int) : List (List Int) × Int := if checkA ws cols ≠ 0 then ([], checkA ws cols) else if k < 0 ∨ (ws.length : Int) ≤ k then ([], 3) else (withoutS cols k.toNat, 0)
end Go.Sy
namespace Go.Proofs.YtialbhieaipcgaaDoor
open Go Go.Sy Go.RowKit
theorem c_Without (p pc : Option Addr) (cp cc : Nat) (l : List WD) (rs : List IR) (k : Int) (hl : l.length < 2 ^ 62) (hr : rs.length ≤ 1048576) (hok : ∀ x ∈ l, Wok x.w) (hrl : ∀ r ∈ rs, r.ok) :
    FnM Tryd.prog n_multi_Without [slv p l.length cp, slv pc rs.length cc, .int .i64 k] (fun R => WordsAt R p l ∧ RowsAt R pc rs) fun v mq _ => ∃ q cq rs', v = .tuple #[slv q rs'.length cq, .int .i64 (withoutE (l.map (·.w)) (rs.map (·.l)) k).2] ∧ rs'.map (·.l) = (withoutE (l.map (·.w)) (rs.map (·.l)) k).1 ∧ TabI mq q cq rs' := by
  have hrl' : ∀ r ∈ rs, r.l.length < 2 ^ 62 := fun r hr => by have := (hrl r hr).small; omega
  refine FnM.of S_multi_Without mx [.p p, .i l.length, .i cp, .p pc, .i rs.length, .i cc, .i k] rfl rfl fun c hp => .callV (c_named p pc cp cc l rs k hl (by omega) hok hrl') (fun g => ⟨hp.1.mono g.R, hp.2.mono g.R⟩) (.env (by (try simp only [liE, letsOf, letU, snd, List.append_nil]); rfl) (.ite (fun h1 => .ret rfl ?_) (fun h1 => ?_))) <;> ((try simp only [evE, liE, letsOf, letU, snd] at h1); (try simp only [cmE] at h1))
  · refine ⟨none, 0, [], ?_, ?_, .empty _⟩
    · show Value.tuple #[Value.slice none 0 0, .int .i64 (if checkA (l.map (·.w)) (rs.map (·.l)) ≠ 0 then checkA (l.map (·.w)) (rs.map (·.l)) else if k < 0 ∨ (l.length : Int) ≤ k then 3 else 0)] = _
      unfold withoutE
      rw [List.length_map]
      by_cases h2 : checkA (l.map (·.w)) (rs.map (·.l)) ≠ 0
      · rw [if_pos h2, if_pos h2]; rfl
      · rw [if_neg h2] at h1
        rw [if_neg h2, if_neg h2]
        by_cases h3 : k < 0 ∨ (l.length : Int) ≤ k
        · rw [if_pos h3, if_pos h3]; rfl
        · rw [if_neg h3] at h1; exact absurd rfl h1
    · unfold withoutE
      rw [List.length_map]
      by_cases h2 : checkA (l.map (·.w)) (rs.map (·.l)) ≠ 0
      · rw [if_pos h2]; rfl
      · rw [if_neg h2] at h1
        rw [if_neg h2]
        by_cases h3 : k < 0 ∨ (l.length : Int) ≤ k
        · rw [if_pos h3]; rfl
        · rw [if_neg h3] at h1; exact absurd rfl h1
  · have h2 : checkA (l.map (·.w)) (rs.map (·.l)) = 0 := by
      by_cases h2 : checkA (l.map (·.w)) (rs.map (·.l)) ≠ 0
      · rw [if_pos h2] at h1; exact h1
      · simpa using h2
    rw [if_neg (by simp [h2])] at h1
    have h3 : ¬ (k < 0 ∨ (l.length : Int) ≤ k) := fun h3 => by rw [if_pos h3] at h1; cases h1
    obtain ⟨K, rfl⟩ : ∃ K : Nat, k = K := ⟨k.toNat, by omega⟩
    have hal := (checkA_zero h2).2.2
    have hent := isAl_ent hal
    have hW : withoutE (l.map (·.w)) (rs.map (·.l)) (K : Int) = (withoutS (rs.map (·.l)) K, 0) := by
      unfold withoutE; rw [if_neg (by simp [h2]), if_neg (by rw [List.length_map]; exact h3)]; rfl
    rw [hW]
    refine .callM (c_without pc cc rs K hr fun r hr => ⟨hrl r hr, by have := (hent r.l (List.mem_map_of_mem hr)).1; rw [List.length_map] at this; omega⟩) rfl rfl (fun g => hp.2.mono g.R) ?_
    rintro v mq hfr ⟨q, cq, rs', rfl, h5, h6⟩
    exact ⟨[.p q, .i (rs'.length : Nat), .i (cq : Nat)], uOk_of rfl, (slv_fresh _ _ _ _ _).symm, .env (by (try simp only [liE, letsOf, letU, snd, List.append_nil]); rfl) (.ret rfl ⟨q, cq, rs', rfl, h5, h6.joinR fun b hb => (hfr b hb).1⟩)⟩
/-- Two lists of columns compared. -/
theorem c_refSame (p q : Option Addr) (cp cq : Nat) (rs ss : List IR) (hr : rs.length < 2 ^ 62) (hs : ss.length < 2 ^ 62) (hrl : ∀ r ∈ rs, r.l.length < 2 ^ 62) (hsl : ∀ r ∈ ss, r.l.length < 2 ^ 62) :
    RetP Tryd.prog n_ref18_Same [slv p rs.length cp, slv q ss.length cq] (fun R => RowsAt R p rs ∧ RowsAt R q ss) (.bool (decide (rs.map (·.l) = ss.map (·.l)))) := by
  refine Fn.of S_ref18_Same mx [.p p, .i rs.length, .i cp, .p q, .i ss.length, .i cq] rfl rfl fun c hp => .chk (by ((try simp only [evE, liE, letsOf, letU, snd]); (try simp only [cmE])); omega) (.chk (by ((try simp only [evE, liE, letsOf, letU, snd]); (try simp only [cmE])); omega) (.ite (fun h1 => .ret rfl ?_) (fun h1 => ?_))) <;> ((try simp only [evE, liE, letsOf, letU, snd] at h1); (try simp only [cmE] at h1))
  · rw [decide_eq_false (fun e => h1 (by have := congrArg List.length e; simp at this; omega))]; rfl
  have hlen : rs.length = ss.length := by omega
  refine .loop (fun n us _ => ∃ (e : Bool) (j : Nat), us = [.b e, .i j] ∧ n + j = rs.length ∧ ∀ i (hi : i < rs.length), i < j → rs[i].l = (ss[i]'(by omega)).l) rs.length ⟨false, 0, rfl, rfl, fun i hi h => by omega⟩ ?_
  rintro n _ m _ ⟨e, j, rfl, hn, hb⟩
  refine .env (by (try simp only [liE, letsOf, letU, snd, List.append_nil]); rfl) (.chk (by ((try simp only [evE, liE, letsOf, letU, snd]); (try simp only [cmE])); omega) (.ite (fun h2 => ?_) (fun h2 => .ret rfl ?_))) <;> ((try simp only [evE, liE, letsOf, letU, snd] at h2); (try simp only [cmE] at h2))
  · have hj : j < rs.length := by omega
    have hj' : j < ss.length := by omega
    have hrm := List.getElem_mem hj
    have hsm := List.getElem_mem hj'
    have hrj := hrl _ hrm
    have hsj := hsl _ hsm
    have bad : rs[j].l ≠ ss[j].l → decide (rs.map (·.l) = ss.map (·.l)) = false := fun hne => decide_eq_false fun e => hne (by
      have h5 : (rs.map (·.l))[j]? = (ss.map (·.l))[j]? := by rw [e]
      rw [List.getElem?_map, List.getElem?_map, List.getElem?_eq_getElem hj, List.getElem?_eq_getElem hj'] at h5
      exact Option.some.inj h5)
    refine .loadSl (rs.map IR.v) j rs.length rs[j].p rs[j].l.length rs[j].cap hj (row_at rs j hj) (fun g => hp.1.1.mono g.R) (.env (by (try simp only [liE, letsOf, letU, snd, List.append_nil]); rfl) (.chk (by ((try simp only [evE, liE, letsOf, letU, snd]); (try simp only [cmE])); omega) (.loadSl (ss.map IR.v) j ss.length ss[j].p ss[j].l.length ss[j].cap hj' (row_at ss j hj') (fun g => hp.2.1.mono g.R) (.env (by (try simp only [liE, letsOf, letU, snd, List.append_nil]); rfl) (.chk (by ((try simp only [evE, liE, letsOf, letU, snd]); (try simp only [cmE])); omega) (.ite (fun h3 => .ret rfl ?_) (fun h3 => ?_))))))) <;> ((try simp only [evE, liE, letsOf, letU, snd] at h3); (try simp only [cmE] at h3))
    · rw [bad fun e => h3 (by rw [e])]; rfl
    have hll : rs[j].l.length = ss[j].l.length := by omega
    refine .loop (fun n us _ => ∃ (e : Bool) (i : Nat), us = [.b e, .i i] ∧ n + i = rs[j].l.length ∧ rs[j].l.take i = ss[j].l.take i) rs[j].l.length ⟨e, 0, rfl, rfl, by simp⟩ ?_
    rintro n2 _ m2 _ ⟨e2, i, rfl, hn2, hb2⟩
    refine .env (by (try simp only [liE, letsOf, letU, snd, List.append_nil]); rfl) (.loadSl (rs.map IR.v) j rs.length rs[j].p rs[j].l.length rs[j].cap hj (row_at rs j hj) (fun g => hp.1.1.mono g.R) (.env (by (try simp only [liE, letsOf, letU, snd, List.append_nil]); rfl) (.chk (by ((try simp only [evE, liE, letsOf, letU, snd]); (try simp only [cmE])); omega) (.ite (fun h4 => ?_) (fun h4 => .again rfl ⟨n - 1, by omega, e2, j + 1, ?_, by omega, fun i' hi' hij => ?_⟩))))) <;> ((try simp only [evE, liE, letsOf, letU, snd] at h4); (try simp only [cmE] at h4))
    · have hi : i < rs[j].l.length := by omega
      have hi' : i < ss[j].l.length := by omega
      refine .loadSl (rs.map IR.v) j rs.length rs[j].p rs[j].l.length rs[j].cap hj (row_at rs j hj) (fun g => hp.1.1.mono g.R) (.env (by (try simp only [liE, letsOf, letU, snd, List.append_nil]); rfl) (.elem1 (.int .i64 (labAt rs[j].l i)) (intsL rs[j].l) i rs[j].l.length rfl rfl hi (fun g => (hp.1.2 _ hrm).mono g.R) (intsL_at _ _ hi) (.env (by (try simp only [liE, letsOf, letU, snd, List.append_nil]); rfl) ?_)))
      refine .loadSl (ss.map IR.v) j ss.length ss[j].p ss[j].l.length ss[j].cap hj' (row_at ss j hj') (fun g => hp.2.1.mono g.R) (.env (by (try simp only [liE, letsOf, letU, snd, List.append_nil]); rfl) (.elem1 (.int .i64 (labAt ss[j].l i)) (intsL ss[j].l) i ss[j].l.length rfl rfl hi' (fun g => (hp.2.2 _ hsm).mono g.R) (intsL_at _ _ hi') (.env (by (try simp only [liE, letsOf, letU, snd, List.append_nil]); rfl) (.ite (fun h5 => .ret rfl ?_) (fun h5 => .again rfl ⟨n2 - 1, by omega, e2, i + 1, ?_, by omega, ?_⟩))))) <;> ((try simp only [evE, liE, letsOf, letU, snd] at h5); (try simp only [cmE] at h5))
      · rw [bad fun e => h5 (by rw [e])]; rfl
      · (simp only [evE, liE, letsOf, letU, snd, Sh.uss, Sh.us, atAddr, map_add0, List.append_nil]); rw [add_i64 i (by omega)]
      · rw [List.take_succ_eq_append_getElem hi, List.take_succ_eq_append_getElem hi', hb2]
        rw [labAt_get hi, labAt_get hi'] at h5
        rw [h5]
    · (simp only [evE, liE, letsOf, letU, snd, Sh.uss, Sh.us, atAddr, map_add0, List.append_nil]); rw [add_i64 j (by omega)]
    · rcases Nat.lt_or_ge i' j with h | h
      · exact hb i' hi' h
      · have : i' = j := by omega
        subst this
        rw [List.take_of_length_le (by omega), List.take_of_length_le (by omega)] at hb2
        exact hb2
  · rw [decide_eq_true ?_]
    · rfl
    · apply List.ext_getElem (by simp [hlen])
      intro i h1 h2
      simp only [List.getElem_map]
      exact hb i (by simpa using h1) (by simp at h1; omega)
end Go.Proofs.YtialbhieaipcgaaDoor
/- Chapter 18: calls that change memory and read the code's own literal. -/
namespace Go.Sy
open Go Go.RowKit
section
variable {P : Program} {c : Cx} {L : List Nat} {ρ : Env} {blks : List Blk} {m : Mem} {R : Value → HW → Prop} {Dn : Nat → List U → HW → Prop} {A : List (List U → HW → Prop)}
/-- A call that may change the memory mo, and knows the literal in block vb, which it leaves. -/
theorem DenM.callOB {f : FuncId} {args : List SV} {sh : Sh} {k : Tree} {vs : List Value} {mo : Mem} {Q : Value → Mem → Prop} (j vb : Nat) (kb : Blk) (hLj : L[j]? = some vb) (hbj : blks[j]? = some kb) (hc : FnO P f vs (mo.upd vb (.cells (SV.dens L ρ kb.cells).toArray kb.elem (0, 0))) Q) (hQ : ∀ v mq, Q v mq → mq vb = some (.cells (SV.dens L ρ kb.cells).toArray kb.elem (0, 0)))
    (hargs : SV.dens L ρ args = vs) (hs : scBlks ρ.length blks = true) (hmo : ∀ b o, mo b = some o → m b = some o)
    (hk : ∀ v mq, (∀ b, mq b ≠ none → b ≠ vb → mo b ≠ none ∨ (m b = none ∧ b ∉ L ∧ ¬ c.hb.own b)) → Q v mq → ∃ us, UOk sh us ∧ v = (sh.fresh ρ.length).1.den L (ρ ++ us) ∧ DenM P R Dn k L (ρ ++ us) c ((m.minus mo).join (mq.del vb)) A) : DenM P R Dn (.call false f args sh blks k) L ρ c m A := fun g => by
  have hmem : vb ∈ L := List.mem_of_getElem? hLj
  have hmov : mo vb = none := by
    cases e : mo vb with
    | none => rfl
    | some o => have := hmo vb o e; rw [(g.blk vb hmem).1] at this; cases this
  refine DenM.callOw (mo := mo) (Q := fun v m' => ∃ mq, m' = mq.del vb ∧ Q v mq) (fun w hw => ?_) hargs hs hmo ?_ g
  · have hgd : L.getD j 0 = vb := by rw [List.getD_eq_getElem?_getD, hLj]; rfl
    have hvb : w.heap[vb]? = some (.cells (SV.dens L ρ kb.cells).toArray kb.elem (0, 0)) := by have := hw.blk j kb hbj; rwa [hgd] at this
    refine (hc w fun b o hb => ?_).mono ?_
    · by_cases e : b = vb
      · subst e; rw [Mem.upd_same] at hb; cases hb; exact hvb
      · rw [Mem.upd_other _ _ e] at hb; exact hw.hold.2 b o (hmo b o hb)
    · rintro e w' ⟨v, rfl, h1, h2, mq, h3, h4, h5⟩
      refine ⟨v, rfl, h1, fun k hk hn => ?_, mq.del vb, fun b hb => ?_, fun b o hb => ?_, mq, rfl, h5⟩
      · by_cases e : k = vb
        · subst e; rw [hvb]; exact h4 _ _ (hQ v mq h5)
        · exact h2 k hk (by rw [Mem.upd_other _ _ e]; exact hn)
      · have hne : b ≠ vb := fun e => hb (by rw [e, Mem.del_same])
        rw [Mem.del_other _ hne] at hb
        rcases h3 b hb with h | h
        · rw [Mem.upd_other _ _ hne] at h; exact .inl h
        · exact .inr h
      · have hne : b ≠ vb := fun e => by rw [e, Mem.del_same] at hb; cases hb
        rw [Mem.del_other _ hne] at hb
        exact h4 b o hb
  · rintro v m' hfr ⟨mq, rfl, h5⟩
    exact hk v mq (fun b hb hne => hfr b (by rw [Mem.del_other _ hne]; exact hb)) h5
/-- slices.overlaps of two blocks of one's own, in the code's memory. -/
theorem DenM.overlaps {f : FuncId} {fn : Func} {aO : Array Operand} {ats : Array TypeId} {ty tS tR e : TypeId} {fv sv xv : SV} {k : Tree} {g1 g2 o1 o2 la ca lb cb : Nat} {c1 c2 : Array Value} {e1 e2 : TypeId} (hf : P.funcs[f]? = some fn) (hname : (fn.name == "runtime.NumGoroutine") = false) (hb : fn.body.isNone = true) (hn : Extern.findNext fn = none) (he : Extern.find fn = some (Extern.SlicesOverlaps.overlaps #[tS, tS] #[tR]))
    (hu : P.underlying tS = some (.slice e)) (hz : (P.info? e).map (·.size) = some 1) (hm1 : m g1 = some (.cells c1 e1 (0, 0))) (hm2 : m g2 = some (.cells c2 e2 (0, 0))) (hne : g1 ≠ g2) (hs2 : c2.size ≠ 0)
    (hk : DenM P R Dn k L (ρ ++ [.b false]) c m A) (hxv : sv.den L ρ = .slice (some ⟨g1, o1, none⟩) la ca) (hyv : xv.den L ρ = .slice (some ⟨g2, o2, none⟩) lb cb) (hs : scBlks ρ.length blks = true := by rfl) :
    DenM P R Dn (.ext false ⟨.call ⟨.value (.func f), aO, ats⟩, ty, [fv, sv, xv]⟩ .bool blks k) L ρ c m A := .extM hs fun gd w hw => by
  have hg1 := hw.hold.2 g1 _ hm1
  have hg2 := hw.hold.2 g2 _ hm2
  have hsz : ∀ w, (Go.sizeOf e).run P w = .ok 1 w := fun w => by
    cases hi : P.info? e with
    | none => rw [hi] at hz; cases hz
    | some i =>
      rw [hi] at hz
      have : i.size = 1 := by simpa using hz
      simp [Go.sizeOf, typeInfo, hi, this]
  refine ⟨.bool false, w, none, m, [.b false], ?_, ⟨rfl, rfl, rfl, Nat.le_refl _, fun _ _ _ => rfl⟩, fun _ h => (by cases h), fun _ _ _ => rfl, hw.hold.2, fun _ => rfl, uOk_of rfl, ?_, hk⟩
  · show (callFunc f ([fv.den L ρ, sv.den L ρ, xv.den L ρ].drop 1).toArray).run P w = _
    rw [hxv, hyv]
    show (callFunc f #[.slice (some ⟨g1, o1, none⟩) la ca, .slice (some ⟨g2, o2, none⟩) lb cb]).run P w = _
    rw [run_callFunc_extern hf hname hb hn he, Lib.run_overlaps_apart w tS tR e hu 1 hsz ⟨g1, o1, none⟩ ⟨g2, o2, none⟩ la ca lb cb hne e1 e2 c1.size c2.size ?_ ?_ hs2 ?_ ?_]
    · rfl
    · simp [World.shape?, hg1]
    · simp [World.shape?, hg2]
    · simp only [World.frozen?, hg1]; simp
    · simp only [World.frozen?, hg1]; simp
  · have := getElem_env ρ [.b false] 0
    rw [Nat.add_zero] at this
    simp only [Sh.fresh, SV.den, BT.eval, Env.bool, this]; rfl
end
end Go.Sy
/- Chapter 18: slices.Insert. -/
namespace Go.Sy
open Go Go.RowKit
section
variable {P : Program} {c : Cx} {L : List Nat} {ρ : Env} {blks : List Blk} {m : Mem} {R : Value → HW → Prop} {Dn : Nat → List U → HW → Prop} {A : List (List U → HW → Prop)}
/-- append(s, make([]T, k)...), without room. -/
theorem DenM.appendZ {aO : Array Operand} {t tn ty e : TypeId} {bytes : Nat} {sv nv : SV} {k : Tree} {g n cap kx : Nat} {kn kq : IntKind} {cur : Array Value} (hE : El P t e 1 bytes) (htn : P.underlying tn = some (.int kn)) (hm : m g = some (.cells cur e (0, 0)))
    (hn : n ≤ cur.size) (h0 : 0 < kx) (hroom : cap < n + kx) (h63 : n + kx ≤ maxLen) (hbytes : (n + kx) * bytes ≤ 140737488355328)
    (hk : ∀ g' cap' (cur' : Array Value), m g' = none → n + kx ≤ cap' → cap' ≤ maxLen → cur'.size = cap' → cur'.toList.take n = cur.toList.take n → DenM P R Dn k L (ρ ++ [.p (some ⟨g', 0, none⟩), .i (n + kx : Nat), .i (cap' : Nat)]) c (m.upd g' (.cells cur' e (0, 0))) A)
    (hv : sv.den L ρ = slv (some ⟨g, 0, none⟩) n cap) (hnv : nv.den L ρ = .int kq (kx : Int)) (hs : scBlks ρ.length blks = true := by rfl) :
    DenM P R Dn (.ext false ⟨.call ⟨.builtin .append, aO, #[t, tn]⟩, ty, [sv, nv]⟩ .sl blks k) L ρ c m A := .extM hs fun gd w hw => by
  obtain ⟨i, z, hi, hz, hsz, hby, hzs⟩ := hE.info
  have hg := hw.hold.2 g _ hm
  have hold : (Builtin.firstCells i.size n (.slice (some ⟨g, 0, none⟩) n cap)).run P w.drew = .ok (cur.toList.take n).toArray w.drew := by
    refine run_firstCells_some (P := P) w.drew i.size n ⟨g, 0, none⟩ n cap (cur.toList.take n) (by rw [hsz, List.length_take, Nat.mul_one]; simp; omega) fun j v hj => ?_
    have hj' : j < n := by
      have := (List.getElem?_eq_some_iff.1 hj).1
      rw [List.length_take] at this; omega
    rw [List.getElem?_take_of_lt hj'] at hj
    rw [addr_add, Nat.zero_add]
    show w.drew.cell? ⟨g, j, none⟩ = some v
    have hg' : w.drew.heap[g]? = some (.cells cur e (0, 0)) := hg
    simp [World.cell?, hg']
    simpa using hj
  have hrun := Lib.run_append_grow_zeros (P := P) w t tn ty e i z kq kn hE.und htn hi hz (some ⟨g, 0, none⟩) n cap (cur.toList.take n) hold kx h0 (by omega) hroom (by simp only [maxLen] at h63; omega) (by rw [hby]; have := Nat.mul_le_mul_right bytes (show kx ≤ n + kx by omega); omega) (growslice_fits hroom (by rw [hby]; exact hbytes))
  have hlt : ∀ b, m b ≠ none → b < w.heap.size := fun b hb => (HW.mem m).inb w b hw.hold.2 hb
  have hmn : m w.heap.size = none := by
    cases h : m w.heap.size with
    | none => rfl
    | some o => have := hlt w.heap.size (by rw [h]; simp); omega
  have hge := grownCap_ge w (n + kx) cap e
  have hcm : grownCap w (n + kx) cap e ≤ maxLen := grownCap_le_maxLen w (n + kx) cap e h63
  generalize hgc : grownCap w (n + kx) cap e = gc at hrun hge hcm
  generalize hcur : (cur.toList.take n).toArray ++ Builtin.zeroCells z.cells kx ++ Builtin.zeroCells z.cells (gc - (n + kx)) = cur' at hrun
  have htl : (cur.toList.take n).length = n := by rw [List.length_take]; simp; omega
  have hsize : cur'.size = gc := by
    rw [← hcur]
    simp only [Array.size_append, List.size_toArray, size_zeroCells, hzs, htl, Nat.mul_one]; omega
  have htake : cur'.toList.take n = cur.toList.take n := by
    rw [← hcur, Array.toList_append, Array.toList_append, List.append_assoc, List.take_append_of_le_length (by simpa using (Nat.le_of_eq htl.symm))]
    show (cur.toList.take n).take n = _
    rw [List.take_take, Nat.min_self]
  refine ⟨slv (some ⟨w.heap.size, 0, none⟩) (n + kx) gc, w.drew.alloc (.cells cur' e), none, m.upd w.heap.size (.cells cur' e (0, 0)), [.p (some ⟨w.heap.size, 0, none⟩), .i (n + kx : Nat), .i (gc : Nat)], ?_, ⟨rfl, rfl, rfl, by simp, fun k hk _ => heap_alloc_old w.drew _ k hk⟩, fun _ h => (by cases h), fun b hb _ => Mem.upd_other _ _ (by omega), fun b o hb => ?_, fun h => (by cases h), uOk_of rfl, (slv_fresh ρ L (some ⟨w.heap.size, 0, none⟩) (n + kx) gc).symm, hk w.heap.size gc cur' hmn hge hcm hsize htake⟩
  · show (builtin .append #[t, tn] ty (aO.map fun | .const _ => true | _ => false) #[sv.den L ρ, nv.den L ρ]).run P w = _
    rw [hv, hnv]
    show (do pure (Next.value (← Builtin.append_ #[t, tn] ty #[.slice (some ⟨g, 0, none⟩) n cap, .int kq (kx : Int)])) : Sem Next).run P w = _
    rw [Sem.run_bind, hrun]; rfl
  · by_cases e' : b = w.heap.size
    · rw [e', Mem.upd_same] at hb; cases hb; rw [e']; exact heap_alloc_new w.drew _
    · rw [Mem.upd_other _ _ e'] at hb
      have := hlt b (by rw [hb]; simp)
      exact (heap_alloc_old w.drew _ b this).trans (hw.hold.2 b o hb)
end
def insS (l : List Int) (k : Nat) (x : Int) : List Int := l.take k ++ [x] ++ l.drop k
theorem insS_len (l : List Int) (k : Nat) (x : Int) (hk : k ≤ l.length) : (insS l k x).length = l.length + 1 := by unfold insS; simp; omega
end Go.Sy
/- Chapter 18: slices.Insert, walked. -/
namespace Go.Sy
open Go Go.RowKit
section
variable {P : Program} {c : Cx} {L : List Nat} {ρ : Env} {blks : List Blk} {m : Mem} {R : Value → HW → Prop} {Dn : Nat → List U → HW → Prop} {A : List (List U → HW → Prop)}
theorem DenM.cap {aO : Array Operand} {t ty e : TypeId} {sv : SV} {k : Tree} {q : Option Addr} {n cap : Nat} (hu : P.underlying t = some (.slice e)) (hk : DenM P R Dn k L (ρ ++ [.i (cap : Nat)]) c m A) (hv : sv.den L ρ = .slice q n cap) (hs : scBlks ρ.length blks = true := by rfl) :
    DenM P R Dn (.ext false ⟨.call ⟨.builtin .cap, aO, #[t]⟩, ty, [sv]⟩ (.int .i64) blks k) L ρ c m A := .extM hs fun gd w hw => by
  refine ⟨goInt cap, w, none, m, [.i (cap : Nat)], ?_, ⟨rfl, rfl, rfl, Nat.le_refl _, fun _ _ _ => rfl⟩, fun _ h => (by cases h), fun _ _ _ => rfl, hw.hold.2, fun _ => rfl, uOk_of rfl, ?_, hk⟩
  · show (builtin .cap #[t] ty (aO.map fun | .const _ => true | _ => false) #[sv.den L ρ]).run P w = _
    rw [hv]
    show (do pure (Next.value (← Builtin.cap_ #[t] ty #[.slice q n cap])) : Sem Next).run P w = _
    simp [Builtin.cap_, run_underlying hu]
  · have := getElem_env ρ [.i (cap : Nat)] 0
    rw [Nat.add_zero] at this
    simp only [Sh.fresh, SV.den, IT.eval, Env.int, this]; rfl
end
theorem sl_den {i : Nat} {O N C : IT} {ρ : Env} {L : List Nat} {g o n cc : Nat} (hp : ρ.ptr i = some ⟨g, 0, none⟩) (ho : O.eval ρ = (o : Int)) (hn : N.eval ρ = (n : Int)) (hc : C.eval ρ = (cc : Int)) : (SV.sl i O N C).den L ρ = .slice (some ⟨g, o, none⟩) n cc := by
  simp only [SV.den, atAddr, hp, ho, hn, hc, Int.toNat_natCast, Option.map_some]
  rw [addr_add, Nat.zero_add]
theorem insB (A : List Value) (l : List Int) (k : Nat) (x : Int) (hk : k ≤ l.length) (hA : l.length + 1 ≤ A.length) (ht : A.take k = intsL (l.take k)) :
    (((A.take k ++ [Value.int .i64 x] ++ A.drop (k + 1)).take (k + 1) ++ intsL (l.drop k) ++ (A.take k ++ [Value.int .i64 x] ++ A.drop (k + 1)).drop (k + 1 + (intsL (l.drop k)).length)).length = A.length) ∧
    ((A.take k ++ [Value.int .i64 x] ++ A.drop (k + 1)).take (k + 1) ++ intsL (l.drop k) ++ (A.take k ++ [Value.int .i64 x] ++ A.drop (k + 1)).drop (k + 1 + (intsL (l.drop k)).length)).take (l.length + 1) = intsL (insS l k x) := by
  have h1 : (A.take k ++ [Value.int .i64 x]).length = k + 1 := by rw [List.length_append, List.length_take]; simp; omega
  have h2 : (A.take k ++ [Value.int .i64 x] ++ A.drop (k + 1)).take (k + 1) = A.take k ++ [Value.int .i64 x] := by
    rw [List.take_append_of_le_length (by omega), List.take_of_length_le (by omega)]
  have h3 : (intsL (l.drop k)).length = l.length - k := by rw [intsL_len, List.length_drop]
  rw [h2]
  refine ⟨by simp only [List.length_append, List.length_drop, h1, h3, List.length_take, List.length_cons, List.length_nil]; omega, ?_⟩
  rw [List.take_append_of_le_length (by rw [List.length_append, h1, h3]; omega), List.take_of_length_le (by rw [List.length_append, h1, h3]; omega), ht]
  unfold insS intsL
  rw [List.map_append, List.map_append]; rfl
theorem insC (A : List Value) (l : List Int) (k : Nat) (x : Int) (hk : k ≤ l.length) (hA : l.length + 1 ≤ A.length) (ht : A.take k = intsL (l.take k)) :
    (((A.take (k + 1) ++ intsL (l.drop k) ++ A.drop (k + 1 + (intsL (l.drop k)).length)).take k ++ [Value.int .i64 x] ++ (A.take (k + 1) ++ intsL (l.drop k) ++ A.drop (k + 1 + (intsL (l.drop k)).length)).drop (k + 1)).length = A.length) ∧
    ((A.take (k + 1) ++ intsL (l.drop k) ++ A.drop (k + 1 + (intsL (l.drop k)).length)).take k ++ [Value.int .i64 x] ++ (A.take (k + 1) ++ intsL (l.drop k) ++ A.drop (k + 1 + (intsL (l.drop k)).length)).drop (k + 1)).take (l.length + 1) = intsL (insS l k x) := by
  have h0 : (A.take (k + 1)).length = k + 1 := by rw [List.length_take]; omega
  have h3 : (intsL (l.drop k)).length = l.length - k := by rw [intsL_len, List.length_drop]
  have h1 : (A.take (k + 1) ++ intsL (l.drop k) ++ A.drop (k + 1 + (intsL (l.drop k)).length)).take k = A.take k := by
    rw [List.append_assoc, List.take_append_of_le_length (by omega), List.take_take, Nat.min_eq_left (by omega)]
  have h2 : (A.take (k + 1) ++ intsL (l.drop k) ++ A.drop (k + 1 + (intsL (l.drop k)).length)).drop (k + 1) = intsL (l.drop k) ++ A.drop (k + 1 + (intsL (l.drop k)).length) := by
    rw [List.append_assoc, List.drop_left' h0]
  rw [h1, h2]
  refine ⟨by simp only [List.length_append, List.length_drop, h3, List.length_take, List.length_cons, List.length_nil]; omega, ?_⟩
  rw [← List.append_assoc, List.take_append_of_le_length (by simp only [List.length_append, List.length_take, List.length_cons, List.length_nil, h3]; omega), List.take_of_length_le (by simp only [List.length_append, List.length_take, List.length_cons, List.length_nil, h3]; omega), ht]
  unfold insS intsL
  rw [List.map_append, List.map_append]; rfl
end Go.Sy
namespace Go.Proofs.YtialbhieaipcgaaDoor
open Go Go.Sy Go.RowKit
theorem c_Insert (mo : Mem) (g cq vb : Nat) (cur : Array Value) (l : List Int) (k : Nat) (x : Int) (hk : k ≤ l.length) (hl : l.length ≤ cq) (hc : cq ≤ maxLen) (hsm : l.length < 2 ^ 30) (hsz : cur.size = cq) (hcur : cur.toList.take l.length = intsL l) (hm : mo g = some (.cells cur 3 (0, 0))) (hv : mo vb = some (.cells #[.int .i64 x] 3 (0, 0))) (hne : vb ≠ g) :
    FnO Tryd.prog n_slices_Insert___int_int_ [slv (some ⟨g, 0, none⟩) l.length cq, .int .i64 (k : Int), slv (some ⟨vb, 0, none⟩) 1 1] mo fun v mq => ∃ g' cq', v = slv (some ⟨g', 0, none⟩) (l.length + 1) cq' ∧ Row mq 3 1 (some ⟨g', 0, none⟩) cq' (l.length + 1) (intsL (insS l k x)) ∧ (∀ b, b ≠ g → mo b ≠ none → mq b = mo b) ∧ (g' = g ∨ mo g' = none) := by
  have hct : cur.toList.take k = intsL (l.take k) := by
    have h1 : (cur.toList.take l.length).take k = cur.toList.take k := by rw [List.take_take, Nat.min_eq_left (by omega)]
    rw [← h1, hcur]; unfold intsL; rw [List.map_take]
  have hrow : Row mo 3 1 (some ⟨g, 0, none⟩) cq l.length (intsL l) := ⟨by rw [intsL_len, Nat.mul_one], .inr ⟨g, cur, rfl, hm, hl, hc, by rw [hsz, Nat.mul_one], by rw [Nat.mul_one]; exact hcur⟩⟩
  have hn1 : ar .add .i64 (l.length : Int) 1 = ((l.length + 1 : Nat) : Int) := by rw [addI (by omega) (by omega)]; omega
  have hk1 : ar .add .i64 (k : Int) 1 = ((k + 1 : Nat) : Int) := by rw [addI (by omega) (by omega)]; omega
  have hcql : (cq : Int) ≤ 9223372036854775807 := by simp only [maxLen] at hc; omega
  have hvC : ∀ {ρ : Env} {c : Cx} {m : Mem}, Go.Sy.Good c [] m → m vb = some (.cells #[.int .i64 x] 3 (0, 0)) → Cells (vw c [] ρ [] m) (some ⟨vb, 0, none⟩) [.int .i64 x] := fun gd h => cells_of_mem gd (xs := [.int .i64 x]) h
  refine FnO.of S_slices_Insert___int_int_ mx [.p (some ⟨g, 0, none⟩), .i l.length, .i cq, .i k, .p (some ⟨vb, 0, none⟩), .i (1 : Nat), .i (1 : Nat)] rfl rfl fun c => .chk (by ((try simp only [evE, liE, letsOf, letU, snd]); (try simp only [cmE])); omega) (.chk (by ((try simp only [evE, liE, letsOf, letU, snd]); (try simp only [cmE])); omega) (.no (by ((try simp only [evE, liE, letsOf, letU, snd]); (try simp only [cmE])); omega) (.chk (by ((try simp only [evE, liE, letsOf, letU, snd]); (try simp only [cmE])); omega) (.ite (fun h1 => ?_) (fun h1 => ?_))))) <;> ((try simp only [evE, liE, letsOf, letU, snd] at h1); (try simp only [cmE] at h1))
  · have hkn : k = l.length := by omega
    refine .append (q := some ⟨g, 0, none⟩) (cap := cq) (n := l.length) (qx := some ⟨vb, 0, none⟩) (kx := 1) (capx := 1) (news := [.int .i64 x]) elI hrow (fun gd => hvC gd hv) rfl (by simp [Value.oneCell']) (fun h => by cases h) (by simp [maxLen]; omega) (by omega) (fun q' cap' m' hr' hk' hq' => .retL rfl fun gd => ?_)
    have hins : insS l k x = l ++ [x] := by unfold insS; rw [hkn, List.take_length, List.drop_length, List.append_nil]
    have hrr : Row m' 3 1 q' cap' (l.length + 1) (intsL (insS l k x)) := by
      rw [hins]; unfold intsL at hr' ⊢; rw [List.map_append]; exact hr'
    have hkeep : ∀ b, b ≠ g → mo b ≠ none → m' b = mo b := fun b hb hb' => hk' b (fun ⟨o, ho⟩ => by cases ho; exact absurd rfl hb) hb'
    rcases hq' with rfl | ⟨g', rfl, hg'⟩
    · exact ⟨g, cap', rfl, hrr, hkeep, .inl rfl⟩
    · exact ⟨g', cap', rfl, hrr, hkeep, .inr hg'⟩
  have hkn : k < l.length := by omega
  have hk1' : ar .add .i64 (k : Int) ((1 : Nat) : Int) = ((k + 1 : Nat) : Int) := hk1
  have hn1' : ar .add .i64 (l.length : Int) ((1 : Nat) : Int) = ((l.length + 1 : Nat) : Int) := hn1
  have hread : ∀ j u, (intsL (l.drop k))[j]? = some u → cur[k + j]? = some u := fun j u hu => by
    have hj : j < (l.drop k).length := by
      have := (List.getElem?_eq_some_iff.1 hu).1
      rwa [intsL_len] at this
    rw [List.length_drop] at hj
    have h3 := intsL_at l (k + j) (by omega)
    rw [← hcur, List.getElem?_take_of_lt (by omega)] at h3
    rw [intsL_at _ _ (by rw [List.length_drop]; exact hj)] at hu
    rw [← hu]
    have h4 : cur[k + j]? = some (.int .i64 (labAt l (k + j))) := by simpa using h3
    rw [h4]
    congr 2
    unfold labAt
    rw [List.getElem?_drop]
  have hdl : (intsL (l.drop k)).length = l.length - k := by rw [intsL_len, List.length_drop]
  have hcl : cur.toList.length = cq := by simpa using hsz
  refine .cap (q := some ⟨g, 0, none⟩) (n := l.length) (cap := cq) elI.und (.env (by (try simp only [liE, letsOf, letU, snd, List.append_nil]); rfl) (.ite (fun h2 => ?_) (fun h2 => ?_))) rfl
  · replace h2 : decide (ar .add .i64 (l.length : Int) ((1 : Nat) : Int) > (cq : Int)) = true := h2
    rw [hn1'] at h2
    have h2 := of_decide_eq_true h2
    refine .chk (by ((try simp only [evE, liE, letsOf, letU, snd]); (try simp only [cmE])); omega) (.appendZ (g := g) (n := k) (cap := cq) (kx := l.length + 1 - k) (kn := .i64) (kq := .i64) (cur := cur) elI (by kernel_rfl) hm (by omega) (by omega) (by omega) (by simp [maxLen]; omega) (by omega) (fun g' cap' cur' hg' hle' hc' hs' ht' => ?_) (sl_den (o := 0) rfl ?_ rfl rfl) ?_)
    · have e1 : k + (l.length + 1 - k) = l.length + 1 := by omega
      rw [e1] at hle' ⊢
      have hcl' : cur'.toList.length = cap' := by simpa using hs'
      have hB := insB cur'.toList l k x hk (by omega) (ht'.trans hct)
      have hvg : vb ≠ g' := fun e => by rw [e, hg'] at hv; cases hv
      have hgg : g ≠ g' := fun e => by rw [e, hg'] at hm; cases hm
      refine .env (by (try simp only [liE, letsOf, letU, snd, List.append_nil]); rfl) (.chk (by ((try simp only [evE, liE, letsOf, letU, snd]); (try simp only [cmE])); omega) (.copyR (g := g') (o := k) (dn := l.length + 1 - k) (dc := cap' - k) (sn := 1) (sc := 1) (a := ⟨vb, 0, none⟩) (cur := cur') (cs := [.int .i64 x]) elI (Mem.upd_same ..) (fun gd => hvC gd (by rw [Mem.upd_other _ _ hvg]; exact hv)) (by rw [Nat.mul_one]; show 1 = min 1 (l.length + 1 - k); omega) (by show k + 1 ≤ cur'.size; omega) (by simp [Value.oneCell']) ?_ (sl_den rfl ?_ ?_ ?_) rfl))
      · rw [Mem.upd_upd]
        refine .env (by (try simp only [liE, letsOf, letU, snd, List.append_nil]); rfl) (.chk ?_ (.chk (by ((try simp only [evE, liE, letsOf, letU, snd]); (try simp only [cmE])); omega) (.copyR (g := g') (o := k + 1) (dn := l.length - k) (dc := cap' - (k + 1)) (sn := l.length - k) (sc := cq - k) (a := ⟨g, k, none⟩) (cs := intsL (l.drop k)) elI (Mem.upd_same ..) (fun gd j u hu => ⟨g, k, rfl, ?_⟩) (by rw [Nat.mul_one, hdl]; show _ = min (l.length - k) (l.length - k); omega) ?_ (intsL_one _) ?_ (sl_den rfl ?_ ?_ ?_) (sl_den rfl ?_ ?_ ?_))))
        · ((try simp only [evE, liE, letsOf, letU, snd]); (try simp only [cmE])); simp only [hk1, hk1']; omega
        · rw [vw_mem gd (show Mem.upd mo g' _ g = some (.cells cur 3 (0, 0)) by rw [Mem.upd_other _ _ hgg]; exact hm)]; exact hread j u hu
        · simp only [List.size_toArray, List.length_append, List.length_take, List.length_drop, hcl', hdl, List.length_cons, List.length_nil]; omega
        · rw [Mem.upd_upd]
          refine .env (by (try simp only [liE, letsOf, letU, snd, List.append_nil]); rfl) (.retL rfl fun gd => ⟨g', cap', ?_, ⟨by rw [intsL_len, insS_len _ _ _ hk, Nat.mul_one], .inr ⟨g', _, rfl, Mem.upd_same .., hle', hc', ?_, ?_⟩⟩, fun b hb hb' => ?_, .inr hg'⟩)
          · show Value.slice ((some (⟨g', 0, none⟩ : Addr)).map fun a => a.add 0) (((l.length + 1 : Nat) : Int)).toNat ((cap' : Int)).toNat = _
            rw [Int.toNat_natCast, Int.toNat_natCast]
            show Value.slice (some ((⟨g', 0, none⟩ : Addr).add 0)) _ _ = _
            rw [addr_add]; rfl
          · rw [Nat.mul_one, List.size_toArray]; exact hB.1.trans hcl'
          · rw [Nat.mul_one]; exact hB.2
          · exact Mem.upd_other _ _ fun e => by rw [e] at hb'; exact hb' hg'
        · show (if (cap' : Int) = ar .add .i64 (k : Int) ((1 : Nat) : Int) then (0 : Int) else 0 + ar .add .i64 (k : Int) ((1 : Nat) : Int) * ((1 : Nat) : Int)) = _
          rw [hk1', if_neg (by omega)]; omega
        · show ((l.length + 1 : Nat) : Int) - ar .add .i64 (k : Int) ((1 : Nat) : Int) = _
          rw [hk1']; omega
        · show (cap' : Int) - ar .add .i64 (k : Int) ((1 : Nat) : Int) = _
          rw [hk1']; omega
        · show (if (cq : Int) = (k : Int) then (0 : Int) else 0 + (k : Int) * ((1 : Nat) : Int)) = _
          rw [if_neg (by omega)]; omega
        · show (l.length : Int) - (k : Int) = _
          omega
        · show (cq : Int) - (k : Int) = _
          omega
      · show (if (cap' : Int) = (k : Int) then (0 : Int) else 0 + (k : Int) * ((1 : Nat) : Int)) = _
        rw [if_neg (by omega)]; omega
      · show ((l.length + 1 : Nat) : Int) - (k : Int) = _
        omega
      · show (cap' : Int) - (k : Int) = _
        omega
    · show (if (cq : Int) = 0 then (0 : Int) else 0) = _
      rw [ite_self]; rfl
    · show Value.int .i64 (IntKind.i64.wrap (ar .add .i64 (l.length : Int) ((1 : Nat) : Int) - (k : Int))) = _
      rw [hn1', wrap_i64 (by omega) (by omega)]; congr 1; omega
  · replace h2 : decide (ar .add .i64 (l.length : Int) ((1 : Nat) : Int) > (cq : Int)) = false := h2
    rw [hn1'] at h2
    have h2 := of_decide_eq_false h2
    have hcn : l.length + 1 ≤ cq := by omega
    have hC := insC cur.toList l k x hk (by omega) hct
    have oK1 : (if (cq : Int) = ar .add .i64 (k : Int) ((1 : Nat) : Int) then (if (cq : Int) = 0 then (0 : Int) else 0) else (if (cq : Int) = 0 then (0 : Int) else 0) + ar .add .i64 (k : Int) ((1 : Nat) : Int) * ((1 : Nat) : Int)) = ((k + 1 : Nat) : Int) := by
      rw [hk1', if_neg (by omega), ite_self]; omega
    have oK : (if (cq : Int) = (k : Int) then (if (cq : Int) = 0 then (0 : Int) else 0) else (if (cq : Int) = 0 then (0 : Int) else 0) + (k : Int) * ((1 : Nat) : Int)) = (k : Int) := by
      rw [if_neg (by omega), ite_self]; omega
    have nK1 : ar .add .i64 (l.length : Int) ((1 : Nat) : Int) - ar .add .i64 (k : Int) ((1 : Nat) : Int) = ((l.length - k : Nat) : Int) := by rw [hn1', hk1']; omega
    have nK : ar .add .i64 (l.length : Int) ((1 : Nat) : Int) - (k : Int) = ((l.length + 1 - k : Nat) : Int) := by rw [hn1']; omega
    have cK1 : (cq : Int) - ar .add .i64 (k : Int) ((1 : Nat) : Int) = ((cq - (k + 1) : Nat) : Int) := by rw [hk1']; omega
    have cK : (cq : Int) - (k : Int) = ((cq - k : Nat) : Int) := by omega
    have hcs0 : (cur.size : Nat) ≠ 0 := by omega
    refine .chk ?_ (.chk ?_ (.overlaps (fn := Tryd.f133) (g1 := vb) (o1 := 0) (la := 1) (ca := 1) (g2 := g) (o2 := k + 1) (lb := l.length - k) (cb := cq - (k + 1)) (tS := 49) (tR := 4) (e := 3) Tryd.func133 (by kernel_rfl) (by kernel_rfl) (by kernel_rfl) (by kernel_rfl) elI.und sizeI hv hm hne hcs0 (.env (by (try simp only [liE, letsOf, letU, snd, List.append_nil]); rfl) (.yes rfl (.chk ?_ (.chk ?_ ?_)))) (sl_den (o := 0) rfl rfl rfl rfl) (sl_den rfl oK1 nK1 cK1)))
    · ((try simp only [evE, liE, letsOf, letU, snd]); (try simp only [cmE])); simp only [hn1, hn1']; omega
    · ((try simp only [evE, liE, letsOf, letU, snd]); (try simp only [cmE])); simp only [hn1, hn1', hk1, hk1', ite_self]; omega
    · ((try simp only [evE, liE, letsOf, letU, snd]); (try simp only [cmE])); simp only [hn1, hn1', hk1, hk1', ite_self]; omega
    · ((try simp only [evE, liE, letsOf, letU, snd]); (try simp only [cmE])); simp only [hn1, hn1', hk1, hk1', ite_self]; omega
    refine .copyR (g := g) (o := k + 1) (dn := l.length - k) (dc := cq - (k + 1)) (sn := l.length + 1 - k) (sc := cq - k) (a := ⟨g, k, none⟩) (cur := cur) (cs := intsL (l.drop k)) elI hm (fun gd j u hu => ⟨g, k, rfl, by rw [vw_mem gd hm]; exact hread j u hu⟩) (by rw [Nat.mul_one, hdl]; show _ = min (l.length + 1 - k) (l.length - k); omega) (by rw [hdl]; omega) (intsL_one _) ?_ (sl_den rfl oK1 nK1 cK1) (sl_den rfl oK nK cK)
    refine .env (by (try simp only [liE, letsOf, letU, snd, List.append_nil]); rfl) (.chk ?_ (.copyR (g := g) (o := k) (dn := l.length + 1 - k) (dc := cq - k) (sn := 1) (sc := 1) (a := ⟨vb, 0, none⟩) (cs := [.int .i64 x]) elI (Mem.upd_same ..) (fun gd => hvC gd (by rw [Mem.upd_other _ _ hne]; exact hv)) (by rw [Nat.mul_one]; show 1 = min 1 (l.length + 1 - k); omega) ?_ (by simp [Value.oneCell']) ?_ (sl_den rfl ?_ ?_ ?_) rfl))
    · ((try simp only [evE, liE, letsOf, letU, snd]); (try simp only [cmE])); simp only [hn1, hn1', hk1, hk1', ite_self]; omega
    · simp only [List.size_toArray, List.length_append, List.length_take, List.length_drop, hcl, hdl, List.length_cons, List.length_nil]; omega
    · rw [Mem.upd_upd]
      refine .env (by (try simp only [liE, letsOf, letU, snd, List.append_nil]); rfl) (.retL rfl fun gd => ⟨g, cq, ?_, ⟨by rw [intsL_len, insS_len _ _ _ hk, Nat.mul_one], .inr ⟨g, _, rfl, Mem.upd_same .., hcn, hc, ?_, ?_⟩⟩, fun b hb hb' => Mem.upd_other _ _ hb, .inl rfl⟩)
      · show Value.slice ((some (⟨g, 0, none⟩ : Addr)).map fun a => a.add (if (cq : Int) = 0 then (0 : Int) else 0).toNat) (ar .add .i64 (l.length : Int) ((1 : Nat) : Int)).toNat ((cq : Int)).toNat = _
        rw [ite_self, hn1', Int.toNat_natCast, Int.toNat_natCast]
        show Value.slice (some ((⟨g, 0, none⟩ : Addr).add 0)) _ _ = _
        rw [addr_add]; rfl
      · rw [Nat.mul_one, List.size_toArray]; exact hC.1.trans hcl
      · rw [Nat.mul_one]; exact hC.2
    · exact oK
    · exact nK
    · exact cK
end Go.Proofs.YtialbhieaipcgaaDoor
