/- Calls that change what is the caller's own: contracts and their rule; stores into words; Reverse. -/
import Derived.Test.YtpbbnmjkbfbelaaDoorYp
set_option linter.unusedSimpArgs false
set_option linter.unusedVariables false
namespace Go.Sy
open Go Go.RowKit
/-- A function that may change the memory mo, which is its caller's own, and reads nothing else. -/
def FnO (P : Program) (f : FuncId) (args : List Value) (mo : Mem) (Q : Value → Mem → Prop) : Prop := ∀ w, (HW.mem mo).H w → Calls P f args.toArray w fun e w' => ∃ v, e = .returned v ∧ (w.heap.size ≤ w'.heap.size ∧ w'.tape = w.tape ∧ w'.os = w.os ∧ w'.output = w.output) ∧
  (∀ k, k < w.heap.size → mo k = none → w'.heap[k]? = w.heap[k]?) ∧ ∃ mq : Mem, (∀ b, mq b ≠ none → mo b ≠ none ∨ w.heap.size ≤ b) ∧ (HW.mem mq).H w' ∧ Q v mq
def Cx.own0 (w : World) (mo : Mem) : Cx where
  hb := HW.bas w mo
  R := ⟨fun _ _ => none, fun _ => none⟩
  ok _ _ _ _ _ := fun h => by cases h
  own _ _ _ := fun h => by cases h
  okm _ _ _ _ := fun h => by cases h
  ownm _ _ := fun h => by cases h
theorem FnO.of {P : Program} {f : FuncId} {shs : List Sh} {t : Tree} (S : FnIs P f shs t) (hmix : P.follows .mixedOrders = true) (us : List U) (hus : Sh.eats shs us = some []) {args : List Value} (hargs : SV.dens [] us (Sh.freshs shs 0).1 = args) {mo : Mem} {Q : Value → Mem → Prop}
    (hd : ∀ c : Cx, DenM P (outM c Q) (fun _ _ _ => False) t [] us c mo []) : FnO P f args mo Q := fun w hmo => by
  obtain ⟨fn, ann, fuel, hf, ht⟩ := S
  have g : Good (Cx.own0 w mo) [] mo := ⟨fun b hb ho => hb ho.2, by simp, List.nodup_nil⟩
  have hH : ((Cx.own0 w mo).hw mo).H w := ⟨HW.bas_self w _, hmo⟩
  refine (fn_sound hf hmix ht (usOk_of hus) hargs hH (hd (Cx.own0 w mo) g)).mono ?_
  rintro e w' ⟨v, rfl, h', hH', hg, m, hm, rfl, hQ⟩
  obtain ⟨q1, q2, q3, q4, q5⟩ := hH'.1
  refine ⟨v, rfl, ⟨q1, q3, q4, q5⟩, q2, m, fun b hb => ?_, hH'.2, hQ⟩
  have := hm b hb
  rcases Nat.lt_or_ge b w.heap.size with hlt | hge
  · exact .inl fun h => this ⟨hlt, h⟩
  · exact .inr hge
section
variable {P : Program} {c : Cx} {L : List Nat} {ρ : Env} {blks : List Blk} {m : Mem} {R : Value → HW → Prop} {Dn : Nat → List U → HW → Prop} {A : List (List U → HW → Prop)}
/-- A call that may change the memory mo. -/
theorem DenM.callO {f : FuncId} {args : List SV} {sh : Sh} {k : Tree} {vs : List Value} {mo : Mem} {Q : Value → Mem → Prop} (hc : FnO P f vs mo Q) (hargs : SV.dens L ρ args = vs) (hs : scBlks ρ.length blks = true) (hmo : ∀ b o, mo b = some o → m b = some o)
    (hk : ∀ v mq, (∀ b, mq b ≠ none → mo b ≠ none ∨ (m b = none ∧ b ∉ L ∧ ¬ c.hb.own b)) → Q v mq → ∃ us, UOk sh us ∧ v = (sh.fresh ρ.length).1.den L (ρ ++ us) ∧ DenM P R Dn k L (ρ ++ us) c ((m.minus mo).join mq) A) : DenM P R Dn (.call false f args sh blks k) L ρ c m A := fun g w hw => by
  rw [hargs]
  have hno : ∀ b, m b = none → mo b = none := fun b hb => by
    cases h : mo b with
    | none => rfl
    | some o => rw [hmo b o h] at hb; cases hb
  refine (hc w fun b o hb => hw.hold.2 b o (hmo b o hb)).mono ?_
  rintro e w' ⟨v, rfl, ⟨b1, b2, b3, b4⟩, hsame, mq, hfr, hmq, hQ⟩
  have hml : ∀ b, m b ≠ none → b < w.heap.size := fun b hb => (HW.mem m).inb w b hw.hold.2 hb
  have hfresh : ∀ b, mq b ≠ none → mo b ≠ none ∨ (m b = none ∧ b ∉ L ∧ ¬ c.hb.own b) := fun b hb' => by
    rcases hfr b hb' with h | hge
    · exact .inl h
    refine .inr ⟨?_, fun hm => by have := hw.lt b hm; omega, fun ho => by have := c.hb.inb w b hw.hold.1 ho; omega⟩
    cases hm : m b with
    | none => rfl
    | some o => have := hml b (by rw [hm]; simp); omega
  obtain ⟨us, hus, hv, hd⟩ := hk v mq hfresh hQ
  have hminus : ∀ b, m.minus mo b ≠ none → m b ≠ none ∧ mo b = none := fun b hb => ⟨by have := Mem.minus_none b hb; rw [Mem.minus_at this] at hb; exact hb, Mem.minus_none b hb⟩
  have hm' : ∀ b, (m.minus mo).join mq b ≠ none → m b ≠ none ∨ (m b = none ∧ b ∉ L ∧ ¬ c.hb.own b ∧ w.heap.size ≤ b) := fun b hb => by
    rcases join_some hb with h | ⟨_, h⟩
    · exact .inl (hminus b h).1
    · by_cases hmb : m b = none
      · refine .inr ?_
        rcases hfr b h with h2 | h2
        · exact absurd (hno b hmb) h2
        · rcases hfresh b h with h3 | h3
          · exact absurd (hno b hmb) h3
          · exact ⟨h3.1, h3.2.1, h3.2.2, h2⟩
      · exact .inl hmb
  have hgood : Good c L ((m.minus mo).join mq) := ⟨fun b hb' => (hm' b hb').elim (g.mem b) fun h => h.2.2.1, fun b hb' => ⟨by
    cases hq : (m.minus mo).join mq b with
    | none => rfl
    | some o => exact ((hm' b (by rw [hq]; simp)).elim (fun h => h (g.blk b hb').1) fun h => h.2.1 hb').elim, (g.blk b hb').2⟩, g.nd⟩
  have hkeep : ∀ b, b < w.heap.size → m b = none → w'.heap[b]? = w.heap[b]? := fun b hb h => hsame b hb (hno b h)
  have hw' : Wd L ρ blks (c.hw ((m.minus mo).join mq)) w' := ⟨hw.len, fun j q hq => by
    have hm : L.getD j 0 ∈ L := getD_mem (by rw [hw.len]; exact (List.getElem?_eq_some_iff.1 hq).1)
    rw [hkeep _ (hw.lt _ hm) (g.blk _ hm).1]; exact hw.blk j q hq, hw.nd, fun b hb' ho => by
    rcases ho with ho | ho
    · exact (g.blk b hb').2 ho
    · exact ho (hgood.blk b hb').1, c.hb.stab w w' hw.hold.1 b1 (fun b hb => hkeep b (c.hb.inb w b hw.hold.1 hb) (by
      cases hm : m b with
      | none => rfl
      | some o => exact absurd hb (g.mem b (by rw [hm]; simp)))) b2 b3 b4, fun b o hbo => by
      have hbo' := hbo
      unfold Mem.join at hbo
      cases hm : m.minus mo b with
      | some x =>
        rw [hm] at hbo; cases hbo
        have h2 := hminus b (by rw [hm]; simp)
        rw [Mem.minus_at h2.2] at hm
        rw [hsame b (hml b h2.1) h2.2]; exact hw.hold.2 b _ hm
      | none => rw [hm] at hbo; exact hmq b o hbo⟩
  refine ⟨_, rfl, us, c.hw ((m.minus mo).join mq), hus, hv, ⟨b1, fun k hk hn => ⟨fun ho => ?_, hkeep k hk ?_⟩, b2, b3, b4⟩, fun h => (by cases h), (Wd.letters hs).2 hw', hd hgood⟩
  · rcases ho with (ho | ho) | ho
    · exact hn (.inl (.inl ho))
    · rcases hm' k ho with h | h
      · exact hn (.inl (.inr h))
      · omega
    · exact hn (.inr ho)
  · cases hm : m k with
    | none => rfl
    | some o => exact absurd (.inl (.inr (by show m k ≠ none; rw [hm]; simp))) hn
theorem wcells_set (l : List Snd) (j : Nat) (s : Snd) : wcells (l.set j s) = ((wcells l).set (j * 2) (.int .u32 s.1)).set (j * 2 + 1) (.int .u32 s.2) := by
  induction l generalizing j with
  | nil => rfl
  | cons x l ih =>
    cases j with
    | zero => rfl
    | succ j =>
      have := ih j
      simp only [wcells, List.set_cons_succ, List.flatMap_cons, scell, List.cons_append, List.nil_append] at this ⊢
      rw [this, show (j + 1) * 2 = j * 2 + 1 + 1 by omega, show j * 2 + 1 + 1 + 1 = (j * 2 + 1) + 1 + 1 by omega]
      simp only [List.set_cons_succ]
theorem putAt_two (l : List Value) (o : Nat) (a b : Value) (h : o + 1 < l.length) : putAt l o [a, b] = (l.set o a).set (o + 1) b := by
  unfold putAt
  apply List.ext_getElem?
  intro i
  simp only [List.getElem?_set, List.length_set]
  rw [List.append_assoc]
  rcases Nat.lt_or_ge i o with h1 | h1
  · rw [List.getElem?_append_left (by simp; omega), List.getElem?_take_of_lt h1, if_neg (by omega), if_neg (by omega)]
  · rw [List.getElem?_append_right (by simp; omega)]
    have e : (l.take o).length = o := by simp; omega
    rw [e]
    rcases Nat.lt_or_ge i (o + 2) with h2 | h2
    · rw [List.getElem?_append_left (by simp; omega)]
      obtain rfl | rfl : i = o ∨ i = o + 1 := by omega
      · rw [if_neg (by omega), if_pos rfl, if_pos (by omega)]; simp
      · rw [if_pos rfl, if_pos (by omega)]; simp
    · rw [List.getElem?_append_right (by simp; omega), if_neg (by omega), if_neg (by omega), List.getElem?_drop]
      congr 1
      simp; omega
/-- Two words, one behind the other: appended to an empty literal. -/
theorem DenM.cat2 {p : Bool} {as1 as2 : Array Operand} {t ty ty2 e : TypeId} {sv xv sv2 yv : SV} {k : Tree} {b0 : Nat} (X Y : WD) (hE : El P t e 2 8) (hX : Good c L m → WordAt (vw c L ρ blks m) X.p X.w) (hY : ∀ {V : Mv}, c.R.le V → WordAt V Y.p Y.w) (ox : X.ok) (oy : Y.ok) (lx : X.w.length < 2 ^ 38) (ly : Y.w.length < 2 ^ 38)
    (hk : ∀ q1 k1 q cq m', RowW m' e q cq (X.w ++ Y.w) → (∀ b, m b ≠ none → m' b = m b) → DenM P R Dn k L (ρ ++ [.p q1, .i (X.w.length : Nat), .i (k1 : Nat)] ++ [.p q, .i ((X.w ++ Y.w).length : Nat), .i (cq : Nat)]) c m' A)
    (hv : sv.den L ρ = slv (some ⟨b0, 0, none⟩) 0 0 := by rfl) (hxv : xv.den L ρ = X.v := by rfl) (hv2 : ∀ q1 k1, sv2.den L (ρ ++ [.p q1, .i (X.w.length : Nat), .i (k1 : Nat)]) = slv q1 X.w.length k1 := by intros; rfl) (hyv : ∀ q1 k1, yv.den L (ρ ++ [.p q1, .i (X.w.length : Nat), .i (k1 : Nat)]) = Y.v := by intros; rfl) (hs : scBlks ρ.length blks = true := by rfl) (hs2 : scBlks (ρ.length + 3) blks = true := by rfl) :
    DenM P R Dn (.ext p ⟨.call ⟨.builtin .append, as1, #[t, t]⟩, ty, [sv, xv]⟩ .sl blks (.ext false ⟨.call ⟨.builtin .append, as2, #[t, t]⟩, ty2, [sv2, yv]⟩ .sl blks k)) L ρ c m A := by
  refine .appendOwn (b0 := b0) (n := 0) (xs := []) (qx := X.p) (kx := X.w.length) (capx := X.cap) (news := wcells X.w) hE rfl (fun _ i x h => by simp at h) hX (wcells_len _) (wcells_one _) ox.nil (by simp [maxLen]; omega) (by omega) (fun q1 k1 m1 hr1' h01 hk1 => ?_) hv hxv hs
  rw [Nat.zero_add]
  have hr1 : X.w.length ≠ 0 → Row m1 e 2 q1 k1 X.w.length (wcells X.w) := fun h => by
    have := (hr1' h).1
    rwa [Nat.zero_add, List.nil_append] at this
  have hlen : (X.w ++ Y.w).length = X.w.length + Y.w.length := List.length_append
  have hsc : scBlks (ρ ++ [U.p q1, .i (X.w.length : Nat), .i (k1 : Nat)]).length blks = true := by rw [List.length_append]; exact hs2
  by_cases h0 : X.w.length = 0
  · obtain ⟨rfl, rfl⟩ := h01 h0
    have e0 : X.w = [] := List.length_eq_zero_iff.1 h0
    refine .appendOwn (b0 := b0) (n := 0) (xs := []) (qx := Y.p) (kx := Y.w.length) (capx := Y.cap) (news := wcells Y.w) hE rfl (fun _ i x h => by simp at h) (fun g => hY g.R) (wcells_len _) (wcells_one _) oy.nil (by simp [maxLen]; omega) (by omega) (fun q2 k2 m2 hr2 h02 hk2 => ?_) (by rw [hv2, h0]) (hyv _ _) hsc
    have := hk (some ⟨b0, 0, none⟩) 0 q2 k2 m2 ?_ fun b hb => (hk2 b (by rw [hk1 b hb]; exact hb)).trans (hk1 b hb)
    · rw [hlen] at this; rw [show 0 + Y.w.length = X.w.length + Y.w.length by omega]; exact this
    · rw [e0, List.nil_append]
      refine ⟨fun hne => ?_, fun hq => ?_, ?_⟩
      · have := (hr2 (fun h => hne (List.length_eq_zero_iff.1 h))).1
        simpa using this
      · by_cases h : Y.w.length = 0
        · rw [(h02 h).1] at hq; cases hq
        · exact row_cap0 (hr2 h).1 hq
      · by_cases h : Y.w.length = 0
        · omega
        · have := (hr2 h).1.cap_le; omega
  · refine .append (q := q1) (cap := k1) (n := X.w.length) (qx := Y.p) (kx := Y.w.length) (capx := Y.cap) (news := wcells Y.w) hE (hr1 h0) (fun g => hY g.R) (wcells_len _) (wcells_one _) oy.nil (by simp [maxLen]; omega) (by omega) (fun q2 k2 m2 hr2 hk2 _ => ?_) (hv2 _ _) (hyv _ _) hsc
    have hq1 : ∀ b, m b ≠ none → q1 ≠ some ⟨b, 0, none⟩ := fun b hb h => hb ((hr1' h0).2 b h)
    have := hk q1 k1 q2 k2 m2 (.of (by rw [hlen, wcells_append]; exact hr2)) fun b hb => ?_
    · rw [hlen] at this; exact this
    · rw [← hk1 b hb]
      refine hk2 b (fun ⟨o, ho⟩ => ?_) (by rw [hk1 b hb]; exact hb)
      rcases (hr1 h0).2 with ⟨h, _⟩ | ⟨g, _, h, _⟩
      · rw [h] at ho; cases ho
      · rw [h] at ho; cases ho; exact absurd h (hq1 b hb)
/-- A sound is stored into a word. -/
theorem DenM.storeS {i : Nat} {I len : IT} {x y : SV} {k : Tree} {e : TypeId} {q : Option Addr} {cap : Nat} {l : List Snd} (j : Nat) (s : Snd) (hj : j < l.length) (hR : Row m e 2 q cap l.length (wcells l)) (hx : x.den L ρ = .int .u32 s.1) (hy : y.den L ρ = .int .u32 s.2)
    (hk : ∀ m' g, q = some ⟨g, 0, none⟩ → Row m' e 2 q cap l.length (wcells (l.set j s)) → (∀ b, b ≠ g → m' b = m b) → DenM P R Dn k L ρ c m' A)
    (hp : ρ.ptr i = q := by rfl) (hI : I.eval ρ = (j : Int) := by rfl) (hn : len.eval ρ = (l.length : Int) := by rfl) :
    DenM P R Dn (.chk (.pick (.cmp .geq I (.lit 0)) (.pick (.cmp .lss I len) (.some i) (.lit false)) (.lit false)) (.store false i (.off I 2 (.lit 0)) [x, y] blks k)) L ρ c m A := by
  rcases hR.2 with ⟨_, h, _⟩ | ⟨g, cur, hq, hg, h1, h2, h3, h4⟩
  · omega
  · subst hq
    have hlen := hR.1
    refine .chk ?_ (.store g (j * 2) cur e rfl ?_ hg (by simp; omega) (hk _ g rfl ⟨by rw [wcells_len, List.length_set], .inr ⟨g, _, rfl, Mem.upd_same _ _ _, h1, h2, ?_, ?_⟩⟩ fun b hb => Mem.upd_other _ _ hb))
    · simp only [BT.eval, IT.eval, hI, hn, hp, cm, pick_and]; simp; omega
    · simp only [atAddr, hp, IT.eval, hI, Option.map_some, addr_add]
      rw [show ((0 : Int) + (j : Int) * ((2 : Nat) : Int)).toNat = j * 2 by omega]; simp
    · simp only [putAt, SV.dens, List.size_toArray, List.length_append, List.length_take, List.length_drop, List.length_cons, List.length_nil, Array.length_toList]; omega
    · have hput : putAt cur.toList (j * 2) (SV.dens L ρ [x, y]) = (cur.toList.set (j * 2) (.int .u32 s.1)).set (j * 2 + 1) (.int .u32 s.2) := by
        simp only [SV.dens, hx, hy]
        exact putAt_two _ _ _ _ (by simp; omega)
      rw [hput, List.take_set, List.take_set, h4, wcells_set]
end
end Go.Sy
namespace Go.Proofs.YtpbbnmjkbfbelaaDoor
open Go Go.Sy Go.RowKit
theorem c_slReverse0 (q : Option Addr) (cq : Nat) : RetP Tryd.prog n_slices_Reverse___api_Sound_api_Sound_ [slv q 0 cq] (fun _ => True) (.tuple #[]) := by
  refine Fn.of S_slices_Reverse___api_Sound_api_Sound_ mx [.p q, .i 0, .i cq] rfl rfl fun c _ => .chk rfl ?_
  refine .loop (fun n us _ => us = [.i 0, .i (-1)]) 0 rfl ?_
  rintro n _ m _ rfl
  exact .no rfl (.ret rfl rfl)
theorem c_slReverse (g : Nat) (cq : Nat) (w : List Snd) (hw : w.length < 2 ^ 40) (cur : Array Value) (hr : Row (Mem.emp.upd g (.cells cur 31 (0, 0))) 31 2 (some ⟨g, 0, none⟩) cq w.length (wcells w)) :
    FnO Tryd.prog n_slices_Reverse___api_Sound_api_Sound_ [slv (some ⟨g, 0, none⟩) w.length cq] (Mem.emp.upd g (.cells cur 31 (0, 0))) fun v mq => v = .tuple #[] ∧ Row mq 31 2 (some ⟨g, 0, none⟩) cq w.length (wcells w.reverse) ∧ ∀ b, mq b ≠ none → b = g := by
  refine FnO.of S_slices_Reverse___api_Sound_api_Sound_ mx [.p (some ⟨g, 0, none⟩), .i w.length, .i cq] rfl rfl fun c => .chk (by ((try simp only [evE, liE, letsOf, letU, snd]); (try simp only [cmE])); omega) ?_
  refine .loop (fun n us mm => ∃ (i : Nat) (l : List Snd), us = [.i i, .i ((w.length : Int) - 1 - i)] ∧ n + i = w.length ∧ l.length = w.length ∧ (∀ p (hp : p < w.length), l[p]? = if p < i ∨ w.length - i ≤ p then some w[w.length - 1 - p] else some w[p]) ∧ Row mm 31 2 (some ⟨g, 0, none⟩) cq l.length (wcells l) ∧ (∀ b, mm b ≠ none → b = g)) w.length
    ⟨0, w, ?_, rfl, rfl, fun p hp => by simp [hp]; omega, hr, fun b hb => ?_⟩ ?_
  · (simp only [evE, liE, letsOf, letU, snd, Sh.uss, Sh.us, atAddr, map_add0, List.append_nil]); rw [subI (by omega) (by omega)]; simp
  · by_cases e : b = g
    · exact e
    · rw [Mem.upd_other _ _ e] at hb; exact absurd rfl hb
  clear hr cur
  rintro n _ m _ ⟨i, l, rfl, hn, hl, hx, hr, hb⟩
  refine .env (by (try simp only [liE, letsOf, letU, snd, List.append_nil]); rfl) (.ite (fun h1 => ?_) (fun h1 => .ret rfl ⟨rfl, ?_, hb⟩)) <;> ((try simp only [evE, liE, letsOf, letU, snd] at h1); (try simp only [cmE] at h1))
  · obtain ⟨j, hj⟩ : ∃ j : Nat, (w.length : Int) - 1 - i = (j : Int) := ⟨w.length - 1 - i, by omega⟩
    have hjl : j < l.length := by omega
    have hil : i < l.length := by omega
    rw [hj]
    refine .loadW l j hjl (fun g => hr.reads g) (.env (by (try simp only [liE, letsOf, letU, snd, List.append_nil]); rfl) (.loadW l i hil (fun g => hr.reads g) (.env (by (try simp only [liE, letsOf, letU, snd, List.append_nil]); rfl) (.storeS i l[j] hil hr rfl rfl (fun m1 g1 e1 hr1 ho1 => ?_) (hn := by rw [hl]; rfl))) (hn := by rw [hl]; rfl))) (hn := by rw [hl]; rfl)
    cases e1
    refine .storeS (l := l.set i l[j]) j l[i] (by simpa using hjl) (by rw [List.length_set]; exact hr1) rfl rfl (fun m2 g2 e2 hr2 ho2 => ?_) rfl rfl (by rw [List.length_set, hl]; rfl)
    cases e2
    refine .again rfl ⟨n - 1, by omega, i + 1, (l.set i l[j]).set j l[i], ?_, by omega, by simp [hl], fun p hp => ?_, by rw [List.length_set]; exact hr2, fun b h => ?_⟩
    · (simp only [evE, liE, letsOf, letU, snd, Sh.uss, Sh.us, atAddr, map_add0, List.append_nil]); rw [add_i64 i (by omega), subI (by omega) (by omega)]
      congr 3; omega
    · rw [List.getElem?_set, List.getElem?_set]
      have hi := hx i (by omega)
      have hjx := hx j (by omega)
      rw [List.getElem?_eq_getElem hil, if_neg (by omega)] at hi
      rw [List.getElem?_eq_getElem hjl, if_neg (by omega)] at hjx
      by_cases e : j = p
      · subst e
        rw [if_pos rfl, if_pos (by simpa using hjl), if_pos (by omega), hi]
        congr 2; omega
      · rw [if_neg e]
        by_cases e2 : i = p
        · subst e2
          rw [if_pos rfl, if_pos hil, if_pos (by omega), hjx]
          congr 2; omega
        · rw [if_neg e2, hx p hp]
          by_cases h : p < i ∨ w.length - i ≤ p
          · rw [if_pos h, if_pos (by omega)]
          · rw [if_neg h, if_neg (by omega)]
    · by_cases e : b = g
      · exact e
      · rw [ho2 b e, ho1 b e] at h; exact hb b h
  · have : l = w.reverse := by
      apply List.ext_getElem?
      intro p
      rcases Nat.lt_or_ge p w.length with hp | hp
      · rw [hx p hp, List.getElem?_reverse hp, List.getElem?_eq_getElem (by omega)]
        split
        · rfl
        · congr 2; omega
      · rw [List.getElem?_eq_none (by omega), List.getElem?_eq_none (by simpa using hp)]
    rw [← this, ← hl]; exact hr
theorem c_wordReverse (X : WD) (hw : Wok X.w) (ox : X.ok) : FnM Tryd.prog n_word_Reverse [X.v] (fun R => WordAt R X.p X.w) fun v mq _ => if checkW X.w = 0 then ∃ q cq, v = .tuple #[slv q X.w.length cq, .int .i64 0] ∧ RowW mq 31 q cq X.w.reverse else v = .tuple #[.slice none 0 0, .int .i64 (checkW X.w)] := by
  refine FnM.of S_word_Reverse mx [.p X.p, .i X.w.length, .i X.cap] rfl rfl fun c hp => .callV (c_wordCheck X.p X.cap X.w hw) (fun g => hp.mono g.R) (.env (by (try simp only [liE, letsOf, letU, snd, List.append_nil]); rfl) (.ite (fun h1 => .ret rfl ?_) (fun h1 => ?_))) <;> ((try simp only [evE, liE, letsOf, letU, snd] at h1); (try simp only [cmE] at h1))
  · rw [if_neg h1]; rfl
  simp only [if_pos h1]
  have hl := (checkW_iff.1 h1).1
  refine .callM (c_cloneS X ox (by omega)) rfl rfl (fun g => hp.mono g.R) ?_
  rintro v mq hf ⟨q, cq, rfl, hr⟩
  replace hr := hr.joinR (m := Mem.emp) fun b hb => (hf b hb).1
  generalize Mem.emp.join mq = m at hr ⊢
  refine ⟨[.p q, .i X.w.length, .i cq], ⟨_, _, _, rfl⟩, (slv_fresh _ _ _ _ _).symm, .env (by (try simp only [liE, letsOf, letU, snd, List.append_nil]); rfl) ?_⟩
  by_cases h0 : X.w = []
  · have hz : X.w.length = 0 := by rw [h0]; rfl
    rw [hz]
    refine .callV (c_slReverse0 q cq) (fun _ => trivial) (.env (by (try simp only [liE, letsOf, letU, snd, List.append_nil]); rfl) (.ret rfl ⟨q, cq, rfl, ?_⟩))
    rw [h0] at hr ⊢; exact hr
  · have hrow := hr.row h0
    rcases hrow.2 with ⟨_, h, _⟩ | ⟨g, cur, rfl, hg, h2⟩
    · exact absurd (List.length_eq_zero_iff.1 h) h0
    have hrow' : Row (Mem.emp.upd g (.cells cur 31 (0, 0))) 31 2 (some ⟨g, 0, none⟩) cq X.w.length (wcells X.w) := ⟨hrow.1, .inr ⟨g, cur, rfl, Mem.upd_same _ _ _, h2⟩⟩
    refine .callO (c_slReverse g cq X.w (by omega) cur hrow') rfl rfl (fun b o hb => ?_) ?_
    · by_cases e : b = g
      · rw [e, Mem.upd_same] at hb; cases hb; rw [e]; exact hg
      · rw [Mem.upd_other _ _ e] at hb; cases hb
    rintro v mq2 hf2 ⟨rfl, hr2, hg2⟩
    refine ⟨[], uOk_of rfl, rfl, .env (by (try simp only [liE, letsOf, letU, snd, List.append_nil]); rfl) (.ret rfl ⟨some ⟨g, 0, none⟩, cq, rfl, .of ?_⟩)⟩
    rw [List.length_reverse]
    refine hr2.joinR fun b hb => ?_
    obtain rfl := hg2 b hb
    unfold Mem.minus
    rw [Mem.upd_same]
end Go.Proofs.YtpbbnmjkbfbelaaDoor
