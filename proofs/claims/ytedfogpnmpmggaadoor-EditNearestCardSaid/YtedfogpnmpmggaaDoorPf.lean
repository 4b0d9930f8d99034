/- Rules for what code does with slices and tables: elements, words, lists of words, tables in one block; what goes over where a round ends. -/
import Derived.Test.YtedfogpnmpmggaaDoorPo
import Derived.Test.YtedfogpnmpmggaaDoorPe
set_option linter.unusedSimpArgs false
set_option linter.unusedVariables false
namespace Go.Sy
open Go Go.RowKit
section
variable {P : Program} {c : Cx} {L : List Nat} {ρ : Env} {blks : List Blk} {m : Mem} {R : Value → HW → Prop} {Dn : Nat → List U → HW → Prop} {A : List (List U → HW → Prop)}
/-- A round's end: blocks that it made go over to the next round as memory. -/
theorem DenM.againL {lvl nb : Nat} {shs : List Sh} {vals : List SV} {I : List U → Mem → Prop} (hA : A[lvl]? = some (inM c I)) (hI : Good c L m → I (Sh.uss L ρ shs vals) (blkMem L ρ (L.drop nb) (blks.drop nb) m)) : DenM P R Dn (.again lvl nb shs vals blks) L ρ c m A := fun g => by
  have hm' : ∀ b, blkMem L ρ (L.drop nb) (blks.drop nb) m b ≠ none → b ∈ L.drop nb ∨ m b ≠ none := fun b hb => by
    by_cases hL : b ∈ L.drop nb
    · exact .inl hL
    · rw [blkMem_not hL] at hb; exact .inr hb
  refine ⟨c.hw (blkMem L ρ (L.drop nb) (blks.drop nb) m), fun w hw => ⟨hw.hold.1, fun b o hb => ?_⟩, fun b hb => ?_, _, hA, _, fun b hb => ?_, rfl, hI g⟩
  · rcases blkMem_spec hb with ⟨j, k, h1, h2, rfl⟩ | h
    · rw [List.getElem?_drop] at h1 h2
      have := hw.blk _ k h2
      simpa [List.getD, h1] using this
    · exact hw.hold.2 b o h
  · rcases hb with hb | hb
    · exact .inl (.inl hb)
    · exact (hm' b hb).elim .inr fun h => .inl (.inr h)
  · rcases hm' b hb with h | h
    · exact (g.blk b (List.drop_subset _ _ h)).2
    · exact g.mem b h
theorem getElem_env (ρ : Env) (us : List U) (k : Nat) : (ρ ++ us)[ρ.length + k]? = us[k]? := by
  rw [List.getElem?_append_right (by omega), Nat.add_sub_cancel_left]
/-- A slice's element: the test and the load. -/
theorem DenM.elem {i : Nat} {I len : IT} {size : Nat} {sh : List Sh} {k : Tree} (us : List U) (xs : List Value) (j n : Nat) (hI : I.eval ρ = (j : Int)) (hn : len.eval ρ = (n : Int)) (hj : j < n) (hus : Sh.eats sh us = some []) (hc : Good c L m → Cells (vw c L ρ blks m) (ρ.ptr i) xs) (hlt : j * size < xs.length)
    (hx : ∀ (q : Nat) v, (SV.dens L (ρ ++ us) (Sh.freshs sh ρ.length).1)[q]? = some v → xs[j * size + q]? = some v) (hk : DenM P R Dn k L (ρ ++ us) c m A) :
    DenM P R Dn (.chk (.pick (.cmp .geq I (.lit 0)) (.pick (.cmp .lss I len) (.some i) (.lit false)) (.lit false)) (.load i (.off I size (.lit 0)) sh blks k)) L ρ c m A := fun g => by
  obtain ⟨b, o, hpe⟩ := (hc g).some hlt
  refine (DenM.chk ?_ (DenM.loadC us (ρ.ptr i) xs (j * size) rfl ?_ hus hc hlt hx hk)) g
  · simp only [BT.eval, IT.eval, hI, hn, hpe, cm, pick_and]
    simp; omega
  · simp only [IT.eval, hI]; simp
/-- Of one cell. -/
theorem DenM.elem1 {i : Nat} {I len : IT} {s : Sh} {k : Tree} (v : Value) (xs : List Value) (j n : Nat) (hI : I.eval ρ = (j : Int)) (hn : len.eval ρ = (n : Int)) (hj : j < n) (hc : Good c L m → Cells (vw c L ρ blks m) (ρ.ptr i) xs) (hx : xs[j]? = some v)
    (hk : DenM P R Dn k L (ρ ++ letU v) c m A) (hus : Sh.eats [s] (letU v) = some [] := by rfl) (hv : SV.dens L (ρ ++ letU v) (Sh.freshs [s] ρ.length).1 = [v] := by rfl) :
    DenM P R Dn (.chk (.pick (.cmp .geq I (.lit 0)) (.pick (.cmp .lss I len) (.some i) (.lit false)) (.lit false)) (.load i (.off I 1 (.lit 0)) [s] blks k)) L ρ c m A :=
  .elem (letU v) xs j n hI hn hj hus hc (by rw [Nat.mul_one]; exact (List.getElem?_eq_some_iff.1 hx).1) (fun q w hw => by
    rw [hv] at hw
    cases q with
    | zero => simp at hw; subst hw; simpa using hx
    | succ q => simp at hw) hk
/-! Words. -/
def scell (s : Snd) : List Value := [.int .u32 s.1, .int .u32 s.2]
def wcells (w : List Snd) : List Value := w.flatMap scell
theorem wcells_len (w : List Snd) : (wcells w).length = w.length * 2 := by
  induction w with
  | nil => rfl
  | cons s w ih => simp only [wcells, List.flatMap_cons, List.length_append, List.length_cons] at *; rw [ih]; simp [scell]; omega
theorem wcells_append (a b : List Snd) : wcells (a ++ b) = wcells a ++ wcells b := List.flatMap_append ..
theorem wcells_at (w : List Snd) (j : Nat) (h : j < w.length) : (wcells w)[j * 2]? = some (.int .u32 w[j].1) ∧ (wcells w)[j * 2 + 1]? = some (.int .u32 w[j].2) := by
  induction w generalizing j with
  | nil => simp at h
  | cons s w ih =>
    cases j with
    | zero => exact ⟨rfl, rfl⟩
    | succ j =>
      have := ih j (by simpa using h)
      simp only [wcells, List.flatMap_cons, scell, List.cons_append, List.nil_append] at *
      rw [show (j + 1) * 2 = j * 2 + 2 by omega, show j * 2 + 2 + 1 = (j * 2 + 1) + 2 by omega]
      simpa using this
abbrev WordAt (V : Mv) (p : Option Addr) (w : List Snd) : Prop := Cells V p (wcells w)
theorem DenM.loadW {i : Nat} {I len : IT} {k : Tree} (w : List Snd) (j : Nat) (hj : j < w.length) (hw : Good c L m → WordAt (vw c L ρ blks m) (ρ.ptr i) w) (hk : DenM P R Dn k L (ρ ++ [.i (w[j].1 : Int), .i (w[j].2 : Int)]) c m A) (hI : I.eval ρ = (j : Int) := by rfl) (hn : len.eval ρ = (w.length : Int) := by rfl) :
    DenM P R Dn (.chk (.pick (.cmp .geq I (.lit 0)) (.pick (.cmp .lss I len) (.some i) (.lit false)) (.lit false)) (.load i (.off I 2 (.lit 0)) [(.int .u32), (.int .u32)] blks k)) L ρ c m A := by
  have h := wcells_at w j hj
  refine .elem [.i (w[j].1 : Int), .i (w[j].2 : Int)] (wcells w) j w.length hI hn hj rfl hw (by rw [wcells_len]; omega) (fun q v hv => ?_) hk
  simp only [Sh.freshs, Sh.fresh, SV.dens, SV.den, IT.eval, int_at, env_int_at1] at hv
  match q, hv with
  | 0, hv => simp at hv; rw [← hv]; exact h.1
  | 1, hv => simp at hv; rw [← hv]; exact h.2
  | q + 2, hv => simp at hv
/-- A slice's value is in a cell: three letters. -/
structure WD where
  p : Option Addr
  cap : Nat
  w : List Snd
def WD.v (x : WD) : Value := slv x.p x.w.length x.cap
theorem DenM.loadSl {i : Nat} {I len : IT} {k : Tree} (xs : List Value) (j n : Nat) (q : Option Addr) (kn cap : Nat) (hj : j < n) (hx : xs[j]? = some (slv q kn cap)) (hw : Good c L m → Cells (vw c L ρ blks m) (ρ.ptr i) xs) (hk : DenM P R Dn k L (ρ ++ [.p q, .i kn, .i cap]) c m A) (hI : I.eval ρ = (j : Int) := by rfl) (hn : len.eval ρ = (n : Int) := by rfl) :
    DenM P R Dn (.chk (.pick (.cmp .geq I (.lit 0)) (.pick (.cmp .lss I len) (.some i) (.lit false)) (.lit false)) (.load i (.off I 1 (.lit 0)) [.sl] blks k)) L ρ c m A := by
  refine .elem [.p q, .i kn, .i cap] xs j n hI hn hj rfl hw (by rw [Nat.mul_one]; exact (List.getElem?_eq_some_iff.1 hx).1) (fun q' v hv => ?_) hk
  match q', hv with
  | 0, hv =>
    simp only [Sh.freshs, SV.dens] at hv
    rw [slv_fresh] at hv
    simp only [List.getElem?_cons_zero, Option.some.injEq] at hv
    rw [← hv, Nat.mul_one]; exact hx
  | q' + 1, hv => simp [Sh.freshs, SV.dens] at hv
/-- A word in a cell of a slice. -/
theorem DenM.loadWD {i : Nat} {I len : IT} {k : Tree} (l : List WD) (j : Nat) (hj : j < l.length) (hw : Good c L m → Cells (vw c L ρ blks m) (ρ.ptr i) (l.map WD.v)) (hk : DenM P R Dn k L (ρ ++ [.p l[j].p, .i l[j].w.length, .i l[j].cap]) c m A) (hI : I.eval ρ = (j : Int) := by rfl) (hn : len.eval ρ = (l.length : Int) := by rfl) :
    DenM P R Dn (.chk (.pick (.cmp .geq I (.lit 0)) (.pick (.cmp .lss I len) (.some i) (.lit false)) (.lit false)) (.load i (.off I 1 (.lit 0)) [.sl] blks k)) L ρ c m A :=
  .loadSl (l.map WD.v) j l.length _ _ _ hj (by simp [hj, WD.v]) hw hk hI hn
/-! A table of 33 rows of 33 numbers in one block, behind other cells. -/
def gcells (hd : List Value) (k : IntKind) (f : Nat → Nat → Int) : List Value := hd ++ (List.range 1089).map fun t => .int k (f (t / 33) (t % 33))
def upd2 (f : Nat → Nat → Int) (i j : Nat) (v : Int) : Nat → Nat → Int := fun i' j' => if i' = i ∧ j' = j then v else f i' j'
theorem gcells_len (hd : List Value) (k : IntKind) (f : Nat → Nat → Int) : (gcells hd k f).length = hd.length + 1089 := by simp [gcells]
theorem gcells_at (hd : List Value) (k : IntKind) (f : Nat → Nat → Int) (i j : Nat) (hi : i < 33) (hj : j < 33) : (gcells hd k f)[hd.length + (i * 33 + j)]? = some (.int k (f i j)) := by
  have ht : i * 33 + j < 1089 := by omega
  rw [gcells, List.getElem?_append_right (by omega), Nat.add_sub_cancel_left, List.getElem?_map, List.getElem?_range ht, Option.map_some, show (i * 33 + j) / 33 = i by omega, show (i * 33 + j) % 33 = j by omega]
theorem gcells_hd (hd : List Value) (k : IntKind) (f : Nat → Nat → Int) (o : Nat) (h : o < hd.length) : (gcells hd k f)[o]? = hd[o]? := List.getElem?_append_left h
theorem gcells_zero (hd : List Value) (k : IntKind) : gcells hd k (fun _ _ => 0) = hd ++ List.replicate 1089 (.int k 0) := by
  unfold gcells
  rw [List.map_const', List.length_range]
theorem gcells_upd (hd : List Value) (k : IntKind) (f : Nat → Nat → Int) (i j : Nat) (v : Int) (hi : i < 33) (hj : j < 33) : putAt (gcells hd k f) (hd.length + (i * 33 + j)) [.int k v] = gcells hd k (upd2 f i j v) := by
  have ht : i * 33 + j < 1089 := by omega
  apply List.ext_getElem?
  intro n
  have hlen := gcells_len hd k f
  unfold putAt
  rcases Nat.lt_trichotomy n (hd.length + (i * 33 + j)) with hn | rfl | hn
  · rw [List.append_assoc, List.getElem?_append_left (by rw [List.length_take]; omega), List.getElem?_take, if_pos hn]
    rcases Nat.lt_or_ge n hd.length with h | h
    · rw [gcells_hd _ _ _ _ h, gcells_hd _ _ _ _ h]
    · obtain ⟨t, rfl⟩ : ∃ t, n = hd.length + t := ⟨n - hd.length, by omega⟩
      simp only [gcells]
      rw [List.getElem?_append_right (by omega), List.getElem?_append_right (by omega), Nat.add_sub_cancel_left, List.getElem?_map, List.getElem?_map, List.getElem?_range (by omega)]
      simp only [Option.map_some, upd2]
      rw [if_neg (by omega)]
  · rw [List.append_assoc, List.getElem?_append_right (by rw [List.length_take]; omega), List.length_take, Nat.min_eq_left (by omega), Nat.sub_self, gcells_at _ _ _ i j hi hj]
    simp [upd2]
  · rw [List.getElem?_append_right (by simp; omega)]
    simp only [List.length_append, List.length_take, List.length_cons, List.length_nil, Nat.min_eq_left (by omega : hd.length + (i * 33 + j) ≤ (gcells hd k f).length)]
    rw [List.getElem?_drop, show hd.length + (i * 33 + j) + (0 + 1) + (n - (hd.length + (i * 33 + j) + (0 + 1))) = n by omega]
    obtain ⟨t, rfl⟩ : ∃ t, n = hd.length + t := ⟨n - hd.length, by omega⟩
    rcases Nat.lt_or_ge t 1089 with h | h
    · simp only [gcells]
      rw [List.getElem?_append_right (by omega), List.getElem?_append_right (by omega), Nat.add_sub_cancel_left, List.getElem?_map, List.getElem?_map, List.getElem?_range h]
      simp only [Option.map_some, upd2]
      rw [if_neg (by omega)]
    · rw [List.getElem?_eq_none (by rw [gcells_len]; omega), List.getElem?_eq_none (by rw [gcells_len]; omega)]
theorem DenM.loadG {pi : Nat} {I J : IT} {base : Nat} {kd : IntKind} {k : Tree} (b : Nat) (hd : List Value) (f : Nat → Nat → Int) (i j : Nat) (hp : ρ.ptr pi = some ⟨b, 0, none⟩) (hi : i < 33) (hj : j < 33) (hb : hd.length = base) (hc : Good c L m → Cells (vw c L ρ blks m) (ρ.ptr pi) (gcells hd kd f)) (hk : DenM P R Dn k L (ρ ++ [.i (f i j)]) c m A)
    (hI : I.eval ρ = (i : Int) := by rfl) (hJ : J.eval ρ = (j : Int) := by rfl) :
    DenM P R Dn (.chk (.pick (.cmp .geq I (.lit 0)) (.pick (.cmp .lss I (.lit 33)) (.some pi) (.lit false)) (.lit false)) (.chk (.pick (.cmp .geq (.off I 33 (.lit base)) (.lit 0)) (.pick (.cmp .geq J (.lit 0)) (.pick (.cmp .lss J (.lit 33)) (.some pi) (.lit false)) (.lit false)) (.lit false))
      (.load pi (.off J 1 (.off I 33 (.lit base))) [(.int kd)] blks k))) L ρ c m A := by
  refine .chk ?_ (.chk ?_ (.loadC [.i (f i j)] (ρ.ptr pi) (gcells hd kd f) (base + (i * 33 + j)) rfl ?_ rfl hc (by rw [gcells_len]; omega) (fun q v hv => ?_) hk))
  · simp only [BT.eval, IT.eval, hI, hp, cm, pick_and]; simp; omega
  · simp only [BT.eval, IT.eval, hI, hJ, hp, cm, pick_and]; simp; omega
  · simp only [IT.eval, hI, hJ]; omega
  · simp only [Sh.freshs, Sh.fresh, SV.dens, SV.den, IT.eval, int_at] at hv
    match q, hv with
    | 0, hv => simp at hv; rw [← hv, ← hb]; exact gcells_at hd kd f i j hi hj
    | q + 1, hv => simp at hv
theorem DenM.storeG {pi : Nat} {I J T : IT} {base : Nat} {kd : IntKind} {k : Tree} (b : Nat) (e : TypeId) (hd : List Value) (f : Nat → Nat → Int) (i j : Nat) (v : Int) (hp : ρ.ptr pi = some ⟨b, 0, none⟩) (hi : i < 33) (hj : j < 33) (hb : hd.length = base) (hm : m b = some (.cells (gcells hd kd f).toArray e (0, 0)))
    (hT : T.eval ρ = v) (hk : DenM P R Dn k L ρ c (m.upd b (.cells (gcells hd kd (upd2 f i j v)).toArray e (0, 0))) A) (hI : I.eval ρ = (i : Int) := by rfl) (hJ : J.eval ρ = (j : Int) := by rfl) :
    DenM P R Dn (.chk (.pick (.cmp .geq I (.lit 0)) (.pick (.cmp .lss I (.lit 33)) (.some pi) (.lit false)) (.lit false)) (.chk (.pick (.cmp .geq (.off I 33 (.lit base)) (.lit 0)) (.pick (.cmp .geq J (.lit 0)) (.pick (.cmp .lss J (.lit 33)) (.some pi) (.lit false)) (.lit false)) (.lit false))
      (.store false pi (.off J 1 (.off I 33 (.lit base))) [(.int kd T)] blks k))) L ρ c m A := by
  refine .chk ?_ (.chk ?_ (.store b (base + (i * 33 + j)) (gcells hd kd f).toArray e rfl ?_ hm ?_ ?_))
  · simp only [BT.eval, IT.eval, hI, hp, cm, pick_and]; simp; omega
  · simp only [BT.eval, IT.eval, hI, hJ, hp, cm, pick_and]; simp; omega
  · simp only [atAddr, hp, IT.eval, hI, hJ, Option.map_some, addr_add]
    rw [show ((base : Int) + (i : Int) * ((33 : Nat) : Int) + (j : Int) * ((1 : Nat) : Int)).toNat = base + (i * 33 + j) by omega]
    simp
  · have := gcells_len hd kd f
    simp; omega
  · simp only [SV.dens, SV.den, hT]
    rw [← hb, gcells_upd hd kd f i j v hi hj]
    exact hk
end
end Go.Sy
