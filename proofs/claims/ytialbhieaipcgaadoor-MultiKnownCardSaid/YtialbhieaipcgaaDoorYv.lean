/- Chapter 18: contracts told at given values. -/
import Derived.Test.YtialbhieaipcgaaDoorYn
import Derived.Test.YtialbhieaipcgaaDoorYl
import Derived.Test.YtialbhieaipcgaaDoorYg
import Derived.Test.YtialbhieaipcgaaDoorYd
set_option linter.unusedSimpArgs false
set_option linter.unusedVariables false
namespace Go.Sy
open Go Go.RowKit
def wokB (W : List (List Snd)) : Bool := W.all fun w => w.all fun s => decide (s.1 < 4294967296) && decide (s.2 < 4294967296)
theorem wok_of {l : List WD} {W : List (List Snd)} (h : l.map (·.w) = W) (hW : wokB W = true) : ∀ x ∈ l, Wok x.w := okW W h hW
theorem fc {α : Type} {P : α → Prop} {a : α} {l : List α} (h : P a) (k : ∀ x ∈ l, P x) : ∀ x ∈ a :: l, P x := fun x hx => by
  rcases List.mem_cons.1 hx with rfl | hx
  · exact h
  · exact k x hx
theorem fn {α : Type} {P : α → Prop} : ∀ x ∈ ([] : List α), P x := fun x hx => by cases hx
theorem rok {b : Addr} {n : Nat} {l : List Int} (h : (Nat.ble l.length n && Nat.ble l.length 100) = true) : (⟨some b, n, l⟩ : IR).ok := by
  rw [Bool.and_eq_true, Nat.ble_eq, Nat.ble_eq] at h
  exact ⟨h.1, nofun, by have := h.2; show l.length < _; omega⟩
theorem cells0 {V : Mv} {p : Option Addr} : Cells V p [] := fun i x h => by simp at h
def wn : WD := ⟨none, 0, []⟩
theorem nil_at {R : Mv} (k : Nat) : ∀ x ∈ List.replicate k wn, WordAt R x.p x.w := fun x hx => by
  rw [List.eq_of_mem_replicate hx]; exact cells0
theorem DenM.loadC0 {P : Program} {c : Cx} {L : List Nat} {ρ : Env} {blks : List Blk} {m : Mem} {R : Value → HW → Prop} {Dn : Nat → List U → HW → Prop} {A : List (List U → HW → Prop)} {i : Nat} {a o : Int} {N : IT} {k : Tree} (l : List CE) (j : Nat) (x : CE) (hx : l[j]? = some x) (hw : Good c L m → Cells (vw c L ρ blks m) (ρ.ptr i) (ccells l)) (hk : DenM P R Dn k L (ρ ++ [.i x.1, .i (x.2.1 : Int), .i (x.2.2 : Int)]) c m A) (ho : o = ((j * 3 : Nat) : Int)) (ha : decide (a < N.eval ρ) = true) :
    DenM P R Dn (.chk (.pick (.cmp .lss (.lit a) N) (.some i) (.lit false)) (.load i (.lit o) [(.int .i64), (.int .u32), (.int .u32)] blks k)) L ρ c m A := fun g => by
  obtain ⟨hj, rfl⟩ := List.getElem?_eq_some_iff.1 hx
  obtain ⟨b, o', hpe⟩ := (hw g).some (i := j * 3) (by rw [ccells_len]; omega)
  have ha := of_decide_eq_true ha
  refine (DenM.chk ?_ (DenM.loadC [.i l[j].1, .i (l[j].2.1 : Int), .i (l[j].2.2 : Int)] (ρ.ptr i) (ccells l) (j * 3) rfl (show (IT.lit o).eval ρ = _ from ho) rfl hw (by rw [ccells_len]; omega) (fun q v hv => ?_) hk)) g
  · simp only [BT.eval, IT.eval, hpe, cm, pick_and, Option.isSome_some, Bool.and_true]; exact decide_eq_true ha
  · rw [c3_fresh] at hv
    have hq : q < 3 := by
      rcases Nat.lt_or_ge q 3 with h | h
      · exact h
      · rw [List.getElem?_eq_none (by simpa using h)] at hv; cases hv
    rw [ccells_at l hj q hq]
    exact hv
end Go.Sy
namespace Go.Proofs.YtialbhieaipcgaaDoor
open Go Go.Sy Go.RowKit
section
variable {p pcol pc : Option Addr} {cp ccol cc : Nat} {l : List WD} {rs : List IR} {ws : List Int} {gap : Int}
theorem score_is (W : List (List Snd)) (cols : List (List Int)) (a e : Int) (h : scoreM ws gap W cols = (a, e)) (hW : l.map (·.w) = W) (hc : rs.map (·.l) = cols) (ho : wokB W = true) (hl : (Nat.ble l.length 100 && Nat.ble rs.length 100) = true) (hr : ∀ r ∈ rs, r.ok) :
    RetP Tryd.prog n_multi_Score [slv p l.length cp, slv pcol rs.length ccol, costs pc ws.length cc gap] (fun R => WordsAt R p l ∧ RowsAt R pcol rs ∧ CostsAt R pc ws ∧ TabOk R) (.tuple #[.int .i64 a, .int .i64 e]) := by
  rw [Bool.and_eq_true, Nat.ble_eq, Nat.ble_eq] at hl
  have := c_Score p pcol pc cp ccol cc l rs ws gap (by omega) (wok_of hW ho) (by omega) (fun r h => by have := (hr r h).small; omega) (fun r h => (hr r h).le)
  rw [hW, hc, h] at this
  exact this
theorem check_is (W : List (List Snd)) (cols : List (List Int)) (e : Int) (h : checkA W cols = e) (hW : l.map (·.w) = W) (hc : rs.map (·.l) = cols) (ho : wokB W = true) (hl : (Nat.ble l.length 100 && Nat.ble rs.length 100) = true) (hr : ∀ r ∈ rs, r.ok) :
    RetP Tryd.prog n_multi_Check [slv p l.length cp, slv pcol rs.length ccol] (fun R => WordsAt R p l ∧ RowsAt R pcol rs) (.int .i64 e) := by
  rw [Bool.and_eq_true, Nat.ble_eq, Nat.ble_eq] at hl
  have := c_Check p pcol cp ccol l rs (by omega) (by omega) (wok_of hW ho) (fun r h => by have := (hr r h).small; omega)
  rw [hW, hc, h] at this
  exact this
theorem row_is (W : List (List Snd)) (cols : List (List Int)) (k : Int) (out : List CE) (n : Nat) (e : Int) (h : rowCA W cols k = (out, e)) (hn : out.length = n) (hW : l.map (·.w) = W) (hc : rs.map (·.l) = cols) (ho : wokB W = true) (hl : (Nat.ble l.length 100 && Nat.ble rs.length 100) = true) (hr : ∀ r ∈ rs, r.ok) :
    FnM Tryd.prog n_multi_Row [slv p l.length cp, slv pcol rs.length ccol, .int .i64 k] (fun R => WordsAt R p l ∧ RowsAt R pcol rs) fun v mq _ => ∃ q cq, v = .tuple #[slv q n cq, .int .i64 e] ∧ Row mq 67 3 q cq out.length (ccells out) := by
  rw [Bool.and_eq_true, Nat.ble_eq, Nat.ble_eq] at hl
  have := c_Row p pcol cp ccol l rs k (by omega) (by omega) (wok_of hW ho) (fun r h => by have := (hr r h).small; omega)
  rw [hW, hc, h] at this
  subst hn
  exact this
theorem add_is {x : WD} (W : List (List Snd)) (cols : List (List Int)) (xw : List Snd) (out : List (List Int)) (n : Nat) (e : Int) (h : addA ws gap W cols xw = (out, e)) (hn : out.length = n) (hW : l.map (·.w) = W) (hc : rs.map (·.l) = cols) (hx : x.w = xw) (ho : wokB (xw :: W) = true) (hl : (Nat.ble l.length cp && Nat.ble l.length 100) = true) (hrl : Nat.ble rs.length 100 = true) (hp : p = none → cp = 0) (hr : ∀ r ∈ rs, r.ok) :
    FnM Tryd.prog n_multi_Add [slv p l.length cp, slv pcol rs.length ccol, x.v, costs pc ws.length cc gap] (fun R => WordsAt R p l ∧ RowsAt R pcol rs ∧ WordAt R x.p x.w ∧ CostsAt R pc ws ∧ VarsOk R) fun v mq _ => ∃ q cq rs', v = .tuple #[slv q n cq, .int .i64 e] ∧ rs'.map (·.l) = out ∧ TabI mq q cq rs' := by
  rw [Bool.and_eq_true, Nat.ble_eq, Nat.ble_eq] at hl
  rw [Nat.ble_eq] at hrl
  have hok := wok_of (l := x :: l) (W := xw :: W) (by rw [List.map_cons, hW, hx]) ho
  have := c_Add p pcol pc cp ccol cc l x rs ws gap (by omega) hl.1 hp (fun y hy => hok y (List.mem_cons_of_mem _ hy)) (hok x (List.mem_cons_self ..)) (by omega) hr
  rw [hW, hc, hx, h] at this
  rw [hx]
  refine FnM.mono this (fun _ h => h) ?_
  rintro v mq _ ⟨q, cq, rs', rfl, h1, h2⟩
  have hl' := congrArg List.length h1
  rw [List.length_map] at hl'
  exact ⟨q, cq, rs', by rw [← hn, ← hl'], h1, h2⟩
theorem exact_is (W : List (List Snd)) (out : List (List Int)) (n : Nat) (a e : Int) (h : exactA ws gap W = (out, a, e)) (hn : out.length = n) (hW : l.map (·.w) = W) (ho : wokB W = true) (hl : Nat.ble l.length 100 = true) :
    FnM Tryd.prog n_multi_Exact [slv p l.length cp, costs pc ws.length cc gap] (fun R => WordsAt R p l ∧ CostsAt R pc ws ∧ TabOk R) fun v mq _ => ∃ q cq rs', v = .tuple #[slv q n cq, .int .i64 a, .int .i64 e] ∧ rs'.map (·.l) = out ∧ TabI mq q cq rs' := by
  rw [Nat.ble_eq] at hl
  have := c_Exact p pc cp cc l ws gap (by omega) (wok_of hW ho)
  rw [hW, h] at this
  refine FnM.mono this (fun _ h => h) ?_
  rintro v mq _ ⟨q, cq, rs', rfl, h1, h2⟩
  have hl' := congrArg List.length h1
  rw [List.length_map] at hl'
  exact ⟨q, cq, rs', by rw [← hn, ← hl'], h1, h2⟩
theorem prog_is (W : List (List Snd)) (out : List (List Int)) (n : Nat) (e : Int) (h : progA ws gap W = (out, e)) (hn : out.length = n) (hW : l.map (·.w) = W) (ho : wokB W = true) (hl : (Nat.ble l.length cp && Nat.ble l.length 100) = true) :
    FnM Tryd.prog n_multi_Progressive [slv p l.length cp, costs pc ws.length cc gap] (fun R => WordsAt R p l ∧ CostsAt R pc ws ∧ TabOk R ∧ StepsOk R) fun v mq _ => ∃ q cq rs', v = .tuple #[slv q n cq, .int .i64 e] ∧ rs'.map (·.l) = out ∧ TabI mq q cq rs' := by
  rw [Bool.and_eq_true, Nat.ble_eq, Nat.ble_eq] at hl
  have := c_Progressive p pc cp cc l ws gap (by omega) hl.1 (wok_of hW ho)
  rw [hW, h] at this
  refine FnM.mono this (fun _ h => h) ?_
  rintro v mq _ ⟨q, cq, rs', rfl, h1, h2⟩
  have hl' := congrArg List.length h1
  rw [List.length_map] at hl'
  exact ⟨q, cq, rs', by rw [← hn, ← hl'], h1, h2⟩
theorem without_is (W : List (List Snd)) (cols : List (List Int)) (k : Int) (out : List (List Int)) (n : Nat) (e : Int) (h : withoutE W cols k = (out, e)) (hn : out.length = n) (hW : l.map (·.w) = W) (hc : rs.map (·.l) = cols) (ho : wokB W = true) (hl : (Nat.ble l.length 100 && Nat.ble rs.length 100) = true) (hr : ∀ r ∈ rs, r.ok) :
    FnM Tryd.prog n_multi_Without [slv p l.length cp, slv pcol rs.length ccol, .int .i64 k] (fun R => WordsAt R p l ∧ RowsAt R pcol rs) fun v mq _ => ∃ q cq rs', v = .tuple #[slv q n cq, .int .i64 e] ∧ rs'.map (·.l) = out ∧ TabI mq q cq rs' := by
  rw [Bool.and_eq_true, Nat.ble_eq, Nat.ble_eq] at hl
  have := c_Without p pcol cp ccol l rs k (by omega) (by omega) (wok_of hW ho) hr
  rw [hW, hc, h] at this
  refine FnM.mono this (fun _ h => h) ?_
  rintro v mq _ ⟨q, cq, rs', rfl, h1, h2⟩
  have hl' := congrArg List.length h1
  rw [List.length_map] at hl'
  exact ⟨q, cq, rs', by rw [← hn, ← hl'], h1, h2⟩
theorem refine_is (W : List (List Snd)) (cols : List (List Int)) (a e : Int) (h : scoreM ws gap W cols = (a, e)) (he : e ≠ 0) (hW : l.map (·.w) = W) (hc : rs.map (·.l) = cols) (ho : wokB W = true) (hl : (Nat.ble l.length 100 && Nat.ble rs.length 100) = true) (hr : ∀ r ∈ rs, r.ok) :
    FnM Tryd.prog n_multi_Refine [slv p l.length cp, slv pcol rs.length ccol, costs pc ws.length cc gap] (fun R => WordsAt R p l ∧ RowsAt R pcol rs ∧ CostsAt R pc ws ∧ VarsOk R) fun v mq _ => ∃ q cq, v = .tuple #[slv q 0 cq, .int .i64 e] := by
  rw [Bool.and_eq_true, Nat.ble_eq, Nat.ble_eq] at hl
  have := c_Refine p pcol pc cp ccol cc l rs ws gap (by omega) (wok_of hW ho) (by omega) hr
  rw [hW, hc] at this
  refine FnM.mono this (fun _ h => h) ?_
  rintro v mq _ ⟨q, cq, rs', e', rfl, h1, h2⟩
  unfold RefQ at h1
  rw [h, if_pos he] at h1
  have hl' := congrArg List.length h1.1
  rw [List.length_map] at hl'
  exact ⟨q, cq, by rw [h1.2, hl']; rfl⟩
theorem same_is {q : Option Addr} {cq : Nat} {ss : List IR} (n : Nat) (ls : List (List Int)) (h1 : rs.map (·.l) = ls) (h2 : ss.map (·.l) = ls) (hn : ls.length = n) (hl : Nat.ble n 100 = true) (hs : ∀ r ∈ ss, r.ok) :
    RetP Tryd.prog n_law18_same [slv p n cp, slv q n cq] (fun R => RowsAt R p rs ∧ RowsAt R q ss) (.bool true) := by
  rw [Nat.ble_eq] at hl
  have e1 := congrArg List.length h1
  have e2 := congrArg List.length h2
  rw [List.length_map] at e1 e2
  have hm : ∀ x ∈ ls, x.length < 2 ^ 40 := fun x hx => by
    rw [← h2] at hx
    obtain ⟨r, hr, rfl⟩ := List.mem_map.1 hx
    exact (hs r hr).small
  have := c_same p q cp cq rs ss (by omega) (by omega) (fun r hr => by have := hm r.l (by rw [← h1]; exact List.mem_map_of_mem hr); omega) (fun r hr => by have := (hs r hr).small; omega)
  rw [h1, h2, decide_eq_true rfl, e1, e2, hn] at this
  exact this
end
end Go.Proofs.YtialbhieaipcgaaDoor
