/- Chapter 19: the law Turned. -/
import Derived.Test.YthabfpagilbplaaDoorRv
import Derived.Test.YthabfpagilbplaaDoorTcTurned
set_option linter.unusedSimpArgs false
set_option linter.unusedVariables false
namespace Go.Proofs.YthabfpagilbplaaDoor
open Go Go.Sy Go.RowKit
theorem c_repI (p : Option Addr) (cp n : Nat) (v : Int) (hp0 : p ≠ none) (hn : 0 < n) (hn2 : n ≤ 65536) : FnM Tryd.prog n_slices_Repeat___int_int_ [slv p 1 cp, .int .i64 n] (fun R => Cells R p (intsL [v])) fun w mq _ => ∃ q, w = slv q n n ∧ RowI mq q n (List.replicate n v) := by
  refine (repeat_of (sz := 1) (bytes := 8) S_slices_Repeat___int_int_ elI p cp 1 n (intsL [v]) hp0 (by omega) hn (by omega) rfl (by simp [intsL, Value.oneCell']) ?_).mono (fun _ h => h) ?_
  · intro c L ρ m R Dn A lv cv kt N hN hk hl hc
    exact .make (z := .int .i64 0) (bytes := 8) N Tryd.underlying30 (by kernel_rfl) rfl (by omega) (by simp [maxLen]; omega) (fun g hg hrow => hk g _ hg (by simp [size_madeCells])) hl hc
  · rintro w mq V ⟨g, ys, rfl, hr, hyl, hys⟩
    rw [Nat.one_mul] at *
    refine ⟨some ⟨g, 0, none⟩, rfl, .of ?_⟩
    have e : ys = intsL (List.replicate n v) := by
      apply List.ext_getElem?
      intro u
      rcases Nat.lt_or_ge u n with h | h
      · rw [hys u (by omega), Nat.mod_one]
        simp [intsL, List.getElem?_replicate, h]
      · rw [List.getElem?_eq_none (by omega), List.getElem?_eq_none (by simp [intsL]; omega)]
    rw [List.length_replicate, ← e]
    exact hr
theorem c_judged (p : Option Addr) (cp : Nat) (l : List Int) (n : Nat) (hl : l.length < 2 ^ 63) (hw : ∀ x ∈ l, 0 ≤ x ∧ x < 256) (hn : n ≤ 256) : FnM Tryd.prog n_law19_judged [slv p l.length cp, .int .i64 n] (fun R => Cells R p (u8L l)) fun v mq _ => ∃ q xs, v = slv q n n ∧ q ≠ none ∧ xs.length = n ∧ RowI mq q n xs ∧ ∀ x ∈ xs, -1 ≤ x ∧ x ≤ 7 := by
  refine FnM.of S_law19_judged mx [.p p, .i l.length, .i cp, .i n] rfl rfl fun c hp => .make (z := .int .i64 0) (bytes := 8) n Tryd.underlying30 (by kernel_rfl) rfl (by omega) (by simp [maxLen]; omega) fun g9 hg9 hrow => .env (by (try simp only [liE, letsOf, letU, snd, List.append_nil]); rfl) (.chk (by ((try simp only [evE, liE, letsOf, letU, snd]); (try simp only [cmE])); omega) ?_)
  generalize Mem.emp.upd g9 _ = m9 at hrow ⊢
  refine .loop (fun q us m => ∃ (i : Nat) (xs : List Int), i ≤ n ∧ us = [.i i] ∧ q = n - i ∧ xs.length = n ∧ Row m 3 1 (some ⟨g9, 0, none⟩) n n (intsL xs) ∧ ∀ x ∈ xs, -1 ≤ x ∧ x ≤ 7) n ⟨0, List.replicate n 0, Nat.zero_le _, rfl, rfl, by simp, by simpa [intsL] using hrow, fun x hx => by rw [List.eq_of_mem_replicate hx]; omega⟩ ?_
  rintro q us m _ ⟨i, xs, hi, rfl, rfl, hxl, hr, hb⟩
  refine .env (by (try simp only [liE, letsOf, letU, snd, List.append_nil]); rfl) (.ite (fun h1 => ?_) (fun h1 => .ret rfl ⟨some ⟨g9, 0, none⟩, xs, rfl, by simp, hxl, .of (by rw [hxl]; exact hr), hb⟩)) <;> ((try simp only [evE, liE, letsOf, letU, snd] at h1); (try simp only [cmE] at h1))
  have hi : i < n := by omega
  refine .chk (by ((try simp only [evE, liE, letsOf, letU, snd]); (try simp only [cmE])); omega) (.ite (fun h2 => ?_) (fun h2 => .again rfl ⟨n - (i + 1), by omega, i + 1, xs, by omega, ?_, rfl, hxl, hr, hb⟩)) <;> ((try simp only [evE, liE, letsOf, letU, snd] at h2); (try simp only [cmE] at h2))
  · have er : ar .rem .i64 (i : Int) (l.length : Int) = ((i % l.length : Nat) : Int) := rfl
    have hm : i % l.length < l.length := Nat.mod_lt _ (by omega)
    obtain ⟨v, hv⟩ := Int.eq_ofNat_of_zero_le (hw _ (List.getElem_mem hm)).1
    have hv2 := (hw _ (List.getElem_mem hm)).2
    have ev : ar .sub .i64 (ar .rem .i64 (IntKind.i64.wrap l[i % l.length]) 9) 1 = ((v % 9 : Nat) : Int) - 1 := by
      rw [hv, show IntKind.i64.wrap (v : Int) = (v : Int) from wrap_i64 (by omega) (by omega)]
      show IntKind.i64.wrap (((v % 9 : Nat) : Int) - 1) = _
      exact wrap_i64 (by omega) (by omega)
    have h9 : v % 9 < 9 := Nat.mod_lt _ (by decide)
    refine .chk (by ((try simp only [evE, liE, letsOf, letU, snd]); (try simp only [cmE])); omega) (.chk (by ((try simp only [evE, liE, letsOf, letU, snd]); (try simp only [cmE])); omega) (.elem1 (.int .u8 l[i % l.length]) (u8L l) (i % l.length) l.length er rfl hm (fun g => hp.mono g.R) (by unfold u8L; rw [List.getElem?_map, List.getElem?_eq_getElem hm]; rfl) (.env (by (try simp only [liE, letsOf, letU, snd, List.append_nil]); rfl) (.storeR i hi hr rfl rfl rfl fun m6 g hg hr6 hs6 => .again rfl ⟨n - (i + 1), by omega, i + 1, xs.set i (((v % 9 : Nat) : Int) - 1), by omega, ?_, rfl, by rw [List.length_set]; exact hxl, ?_, fun x hx => ?_⟩))))
    · (simp only [evE, liE, letsOf, letU, snd, Sh.uss, Sh.us, atAddr, map_add0, List.append_nil]); rw [add_i64 i (by omega)]
    · rw [← intsL_set, ← ev]; exact hr6
    · rcases List.mem_or_eq_of_mem_set hx with hx | rfl
      · exact hb x hx
      · omega
  · (simp only [evE, liE, letsOf, letU, snd, Sh.uss, Sh.us, atAddr, map_add0, List.append_nil]); rw [add_i64 i (by omega)]
theorem l_CognatesTurned (p q : Option Addr) (cp cq : Nat) (l m : List Int) (n k : Int) (hl : l.length < 2 ^ 63) (hm : m.length < 2 ^ 63) (hwl : ∀ x ∈ l, 0 ≤ x ∧ x < 256) (hwm : ∀ x ∈ m, 0 ≤ x ∧ x < 256) (hn : 0 ≤ n ∧ n < 256) (hk : 0 ≤ k ∧ k < 65536) :
    RetP Tryd.prog n_law19_CognatesTurned [slv p l.length cp, slv q m.length cq, .int .u8 n, .int .u16 k] (fun R => Cells R p (u8L l) ∧ Cells R q (u8L m) ∧ TabOk R) (.bool true) := by
  obtain ⟨n', rfl⟩ := Int.eq_ofNat_of_zero_le hn.1
  have eN : ar .add .i64 1 (IntKind.i64.wrap (n' : Int)) = ((n' + 1 : Nat) : Int) := by
    rw [show IntKind.i64.wrap (n' : Int) = (n' : Int) from wrap_i64 (by omega) (by omega), show ar .add .i64 1 (n' : Int) = 1 + (n' : Int) from wrap_i64 (by omega) (by omega)]; omega
  generalize hNN : n' + 1 = N at eN
  have hN1 : 0 < N := by omega
  have hN256 : N ≤ 256 := by omega
  refine Fn.of S_law19_CognatesTurned mx [.p p, .i l.length, .i cp, .p q, .i m.length, .i cq, .i n', .i k] rfl rfl fun c hp => .callE (c_judged p cp l N hl hwl hN256) (fun g => hp.1.mono g.R) ?_ (hargs := by show [slv p l.length cp, Value.int .i64 (ar .add .i64 1 (IntKind.i64.wrap (n' : Int)))] = _; rw [eN])
  rintro v mq m1 h1 h2 ⟨qa, a, rfl, hqa, hal, hra, hab⟩
  refine ⟨[.p qa, .i N, .i N], uOk_of rfl, (slv_fresh _ _ _ _ _).symm, ?_⟩
  have hra := hra.le' h2
  clear h1 h2
  refine .env (by (try simp only [liE, letsOf, letU, snd, List.append_nil]); rfl) (.callE (c_judged q cq m N hm hwm hN256) (fun g => hp.2.1.mono g.R) ?_ (hargs := by show [slv q m.length cq, Value.int .i64 (ar .add .i64 1 (IntKind.i64.wrap (n' : Int)))] = _; rw [eN]))
  rintro v mq m2 h1 h2 ⟨qb, b, rfl, hqb, hbl, hrb, hbb⟩
  refine ⟨[.p qb, .i N, .i N], uOk_of rfl, (slv_fresh _ _ _ _ _).symm, ?_⟩
  have hra := hra.le' h1
  have hrb := hrb.le' h2
  clear h1 h2
  have kc := c_cloneI qa N a (by omega) (fun h => absurd h hqa) (by omega)
  rw [hal] at kc
  refine .env (by (try simp only [liE, letsOf, letU, snd, List.append_nil]); rfl) (.callM kc rfl rfl (fun g => hra.reads g) ?_)
  rintro v mq hfr ⟨qo, co, rfl, hro⟩
  refine ⟨[.p qo, .i N, .i co], uOk_of rfl, (slv_fresh _ _ _ _ _).symm, ?_⟩
  have hna : a ≠ [] := fun h => by rw [h] at hal; simp at hal; omega
  have hnb : b ≠ [] := fun h => by rw [h] at hbl; simp at hbl; omega
  have apart : ∀ g, qo = some ⟨g, 0, none⟩ → m2 g = none := fun g hg => (hfr g (row_in (hro.row hna) hg)).1
  have hra := hra.joinL (mq := mq)
  have hrb := hrb.joinL (mq := mq)
  have hina : ∀ g, qa = some ⟨g, 0, none⟩ → m2 g ≠ none := fun g hg => row_in (‹RowI m2 qa N a›.row hna) hg
  have hinb : ∀ g, qb = some ⟨g, 0, none⟩ → m2 g ≠ none := fun g hg => row_in (‹RowI m2 qb N b›.row hnb) hg
  have hro := hro.joinR (m := m2) fun g hg => (hfr g hg).1
  generalize m2.join mq = m3 at *
  have hr0 := hro.row hna
  rw [hal] at hr0
  refine .env (by (try simp only [liE, letsOf, letU, snd, List.append_nil]); rfl) (.chk (by ((try simp only [evE, liE, letsOf, letU, snd]); (try simp only [cmE])); omega) ?_)
  refine .loop (fun q us m => ∃ (i : Nat), i ≤ N ∧ us = [.i i] ∧ q = N - i ∧ RowI m qa N a ∧ RowI m qb N b ∧ Row m 3 1 qo co N (intsL (mixL (turnG k) a i))) N ⟨0, Nat.zero_le _, rfl, rfl, hra, hrb, by rw [mixL_zero]; exact hr0⟩ ?_
  clear hra hrb hro hr0
  rintro q' us m4 _ ⟨i, hi, rfl, rfl, hra, hrb, hro⟩
  refine .env (by (try simp only [liE, letsOf, letU, snd, List.append_nil]); rfl) (.ite (fun h1 => ?_) (fun h1 => .alloc fun c0 => ?_)) <;> ((try simp only [evE, liE, letsOf, letU, snd] at h1); (try simp only [cmE] at h1))
  · have hi : i < N := by omega
    have hia : i < a.length := by omega
    have hb7 := hab _ (List.getElem_mem hia)
    have hmx := mixL_at (turnG k) a i hia
    have hml := mixL_len (turnG k) a i
    refine .elem1 (.int .i64 (labAt a i)) (intsL (mixL (turnG k) a i)) i N rfl rfl hi (fun g => hro.reads g) (by rw [intsL_at _ _ (by omega), hmx]) (.env (by (try simp only [liE, letsOf, letU, snd, List.append_nil]); rfl) (.ite (fun h2 => ?_) (fun h2 => .again rfl ⟨N - (i + 1), by omega, i + 1, by omega, ?_, rfl, hra, hrb, ?_⟩))) <;> ((try simp only [evE, liE, letsOf, letU, snd] at h2); (try simp only [cmE] at h2))
    · have hla : labAt a i = a[i] := labAt_get hia
      have et : ar .add .i64 (ar .mul .i64 (ar .sub .i64 7 (labAt a i)) 5) (IntKind.i64.wrap k) = turnG k (labAt a i) := by
        rw [show ar .sub .i64 7 (labAt a i) = 7 - labAt a i from wrap_i64 (by omega) (by omega), show ar .mul .i64 (7 - labAt a i) 5 = (7 - labAt a i) * 5 from wrap_i64 (by omega) (by omega), show IntKind.i64.wrap k = k from wrap_i64 (by omega) (by omega), show ar .add .i64 ((7 - labAt a i) * 5) k = (7 - labAt a i) * 5 + k from wrap_i64 (by omega) (by omega)]
        unfold turnG turnI
        rw [if_pos h2]
      refine .storeR i hi hro rfl rfl rfl fun m5 g hg hr5 hs5 => .again rfl ⟨N - (i + 1), by omega, i + 1, by omega, ?_, rfl, hra.keep fun g' hg' _ => hs5 g' fun e => ?_, hrb.keep fun g' hg' _ => hs5 g' fun e => ?_, ?_⟩
      · (simp only [evE, liE, letsOf, letU, snd, Sh.uss, Sh.us, atAddr, map_add0, List.append_nil]); rw [add_i64 i (by omega)]
      · exact hina g' hg' (apart g' (by rw [hg, e]))
      · exact hinb g' hg' (apart g' (by rw [hg, e]))
      · have e2 := mixL_set (turnG k) a i hia
        rw [← e2, ← intsL_set, ← et]; exact hr5
    · (simp only [evE, liE, letsOf, letU, snd, Sh.uss, Sh.us, atAddr, map_add0, List.append_nil]); rw [add_i64 i (by omega)]
    · rw [mixL_same (turnG k) a i hia (by unfold turnG; rw [if_neg (by omega)])]; exact hro
  · have : N = i := by omega
    subst this
    have hro : RowI m4 qo co (a.map (turnG k)) := by
      refine .of ?_
      rw [List.length_map, hal, ← mixL_all, hal]; exact hro
    refine .loop (fun q us m => ∃ (e : Bool) (i : Nat), i ≤ 2 ∧ us = [.b e, .i i] ∧ q = 2 - i ∧ m4.le m) 2 ⟨false, 0, Nat.zero_le _, rfl, rfl, .refl _⟩ ?_
    rintro q'' us m6 _ ⟨e, i, hi, rfl, rfl, hle⟩
    have hra := hra.le' hle
    have hrb := hrb.le' hle
    have hro := hro.le' hle
    refine .env (by (try simp only [liE, letsOf, letU, snd, List.append_nil]); rfl) (.ite (fun h2 => ?_) (fun h2 => .callV c_works (fun g => hp.2.2.mono g.R) (.ret rfl rfl))) <;> ((try simp only [evE, liE, letsOf, letU, snd] at h2); (try simp only [cmE] at h2))
    refine .chk (by ((try simp only [evE, liE, letsOf, letU, snd]); (try simp only [cmE])); omega) (.chk (by ((try simp only [evE, liE, letsOf, letU, snd]); (try simp only [cmE])); omega) (.ite (fun h3 => ?_) (fun h3 => .ite (fun h4 => ?_) (fun h4 => ?_))))
    · skip
      have J := jd_compare
      have kF : ∀ (p q : Option Addr) (cp cq : Nat) (a b : List Int), a.length < 2 ^ 63 → b.length < 2 ^ 63 → RetP Tryd.prog n_cognates_Compare [slv p a.length cp, slv q b.length cq] (fun R => Cells R p (intsL a) ∧ Cells R q (intsL b)) (res3V (compareE a b)) := fun p q cp cq a b ha hb => c_Compare p q cp cq a b ha hb
      have ka1 := kF qa qb N N a b (by omega) (by omega)
      have ka2 := kF qb qa N N b a (by omega) (by omega)
      have ka3 := kF qo qb co N (a.map (turnG k)) b (by rw [List.length_map]; omega) (by omega)
      have ka4 := kF qa qa N N a a (by omega) (by omega)
      have hlow : ∀ x ∈ a, -1 ≤ x := fun x hx => (hab x hx).1
      have hlowb : ∀ x ∈ b, -1 ≤ x := fun x hx => (hbb x hx).1
      obtain ⟨t1, t2⟩ := J.turn a b (by omega) (by omega) hlow hlowb
      rw [t1] at ka2
      rw [J.ren k a b hk.1 (by omega) (by omega) hab hlowb] at ka3
      rw [J.self a (by omega) hlow] at ka4
      have hsm := J.small a b (by omega) (by omega) hlow hlowb
      rw [hal, hbl] at ka1
      rw [hal, hbl] at ka2
      rw [List.length_map, hal, hbl] at ka3
      rw [hal] at ka4
      generalize compareE a b = z at *
      obtain ⟨⟨⟨x1, x2⟩, ⟨y1, y2⟩⟩, ez⟩ := z
      dsimp only at t2 hsm
      subst t2
      clear t1
      unfold res3V at ka1 ka2 ka3 ka4
      dsimp only at ka1 ka2 ka3 ka4
      refine .callV ka1 (fun g => ⟨hra.reads g, hrb.reads g⟩) (.env (by (try simp only [liE, letsOf, letU, snd, List.append_nil]); rfl) (.alloc fun c1 => .alloc fun c2 => .callV ka2 (fun g => ⟨hrb.reads g, hra.reads g⟩) (.env (by (try simp only [liE, letsOf, letU, snd, List.append_nil]); rfl) (.alloc fun c3 => .alloc fun c4 => .no (by ((try simp only [evE, liE, letsOf, letU, snd]); (try simp only [cmE])) <;> simp) (.alloc fun c5 => ?_)))))
      refine .loop (fun q us m => ∃ (e : Bool) (j : Nat), j ≤ 2 ∧ us = [.b e, .i j] ∧ q = 2 - j ∧ m = m6) 2 ⟨e, 0, Nat.zero_le _, rfl, rfl, rfl⟩ ?_
      rintro q' us m7 _ ⟨e2, j, hj, rfl, rfl, rfl⟩
      refine .env (by (try simp only [liE, letsOf, letU, snd, List.append_nil]); rfl) (.ite (fun h3 => ?_) (fun h3 => ?_)) <;> ((try simp only [evE, liE, letsOf, letU, snd] at h3); (try simp only [cmE] at h3))
      · refine .chk (by ((try simp only [evE, liE, letsOf, letU, snd]); (try simp only [cmE])); omega) (.chk (by ((try simp only [evE, liE, letsOf, letU, snd]); (try simp only [cmE])); omega) (.ite (fun h4 => .alloc fun c6 => .no (by ((try simp only [evE, liE, letsOf, letU, snd]); (try simp only [cmE])); omega) (.again rfl ⟨2 - (j + 1), by omega, e2, j + 1, by omega, ?_, rfl, rfl⟩)) (fun h4 => .ite (fun h5 => .alloc fun c6 => .no (by ((try simp only [evE, liE, letsOf, letU, snd]); (try simp only [cmE])); omega) (.again rfl ⟨2 - (j + 1), by omega, e2, j + 1, by omega, ?_, rfl, rfl⟩)) (fun h5 => ?_))))
        · (simp only [evE, liE, letsOf, letU, snd, Sh.uss, Sh.us, atAddr, map_add0, List.append_nil]); rw [add_i64 j (by omega)]
        · (simp only [evE, liE, letsOf, letU, snd, Sh.uss, Sh.us, atAddr, map_add0, List.append_nil]); rw [add_i64 j (by omega)]
        · ((try simp only [evE, liE, letsOf, letU, snd] at h4); (try simp only [cmE] at h4)); ((try simp only [evE, liE, letsOf, letU, snd] at h5); (try simp only [cmE] at h5))
          omega
      · refine .callV ka3 (fun g => ⟨hro.reads g, hrb.reads g⟩) (.env (by (try simp only [liE, letsOf, letU, snd, List.append_nil]); rfl) (.no (by ((try simp only [evE, liE, letsOf, letU, snd]); (try simp only [cmE])) <;> simp) (.callV ka4 (fun g => ⟨hra.reads g, hra.reads g⟩) (.env (by (try simp only [liE, letsOf, letU, snd, List.append_nil]); rfl) (.no (by ((try simp only [evE, liE, letsOf, letU, snd]); (try simp only [cmE])) <;> simp) (.callV (c_frac 1 1) (fun _ => trivial) (.env (by (try simp only [liE, letsOf, letU, snd, List.append_nil]); rfl) (.no rfl (.callV (c_frac 1 1) (fun _ => trivial) (.env (by (try simp only [liE, letsOf, letU, snd, List.append_nil]); rfl) (.no rfl (.alloc fun c7 => ?_))))))))))))
        refine .callE (c_repI (some ⟨c7, 0, none⟩) 1 N (-1) (by simp) hN1 (by omega)) (fun g => g.cells (j := 6) rfl rfl rfl) ?_ (hargs := by show [slv (some ⟨c7, 0, none⟩) 1 1, Value.int .i64 (ar .add .i64 1 (IntKind.i64.wrap (n' : Int)))] = _; rw [eN])
        rintro v mq m8 h1 h2 ⟨qr, rfl, hrr⟩
        refine ⟨[.p qr, .i N, .i N], uOk_of rfl, (slv_fresh _ _ _ _ _).symm, ?_⟩
        have ka5 := kF qa qr N N a (List.replicate a.length (-1)) (by omega) (by rw [List.length_replicate]; omega)
        rw [J.none a (by omega) hlow, List.length_replicate, hal] at ka5
        unfold res3V at ka5
        dsimp only at ka5
        have hra8 := hra.le' h1
        have hrr8 := hrr.le' h2
        refine .env (by (try simp only [liE, letsOf, letU, snd, List.append_nil]); rfl) (.callV ka5 (fun g => ⟨hra8.reads g, hrr8.reads g⟩) (.env (by (try simp only [liE, letsOf, letU, snd, List.append_nil]); rfl) (.no (by ((try simp only [evE, liE, letsOf, letU, snd]); (try simp only [cmE])) <;> simp) (.callV (c_frac 1 1) (fun _ => trivial) (.env (by (try simp only [liE, letsOf, letU, snd, List.append_nil]); rfl) (.no rfl (.callV (c_frac 1 1) (fun _ => trivial) (.env (by (try simp only [liE, letsOf, letU, snd, List.append_nil]); rfl) (.no rfl (.again rfl ⟨2 - (i + 1), by omega, e2, i + 1, by omega, ?_, rfl, hle.trans h1⟩))))))))))
        (simp only [evE, liE, letsOf, letU, snd, Sh.uss, Sh.us, atAddr, map_add0, List.append_nil]); rw [add_i64 i (by omega)]
    · skip
      have J := jd_cubed
      have kF : ∀ (p q : Option Addr) (cp cq : Nat) (a b : List Int), a.length < 2 ^ 63 → b.length < 2 ^ 63 → RetP Tryd.prog n_cognates_Cubed [slv p a.length cp, slv q b.length cq] (fun R => Cells R p (intsL a) ∧ Cells R q (intsL b)) (res3V (cubedE a b)) := fun p q cp cq a b ha hb => c_Cubed p q cp cq a b ha hb
      have ka1 := kF qa qb N N a b (by omega) (by omega)
      have ka2 := kF qb qa N N b a (by omega) (by omega)
      have ka3 := kF qo qb co N (a.map (turnG k)) b (by rw [List.length_map]; omega) (by omega)
      have ka4 := kF qa qa N N a a (by omega) (by omega)
      have hlow : ∀ x ∈ a, -1 ≤ x := fun x hx => (hab x hx).1
      have hlowb : ∀ x ∈ b, -1 ≤ x := fun x hx => (hbb x hx).1
      obtain ⟨t1, t2⟩ := J.turn a b (by omega) (by omega) hlow hlowb
      rw [t1] at ka2
      rw [J.ren k a b hk.1 (by omega) (by omega) hab hlowb] at ka3
      rw [J.self a (by omega) hlow] at ka4
      have hsm := J.small a b (by omega) (by omega) hlow hlowb
      rw [hal, hbl] at ka1
      rw [hal, hbl] at ka2
      rw [List.length_map, hal, hbl] at ka3
      rw [hal] at ka4
      generalize cubedE a b = z at *
      obtain ⟨⟨⟨x1, x2⟩, ⟨y1, y2⟩⟩, ez⟩ := z
      dsimp only at t2 hsm
      subst t2
      clear t1
      unfold res3V at ka1 ka2 ka3 ka4
      dsimp only at ka1 ka2 ka3 ka4
      refine .callV ka1 (fun g => ⟨hra.reads g, hrb.reads g⟩) (.env (by (try simp only [liE, letsOf, letU, snd, List.append_nil]); rfl) (.alloc fun c1 => .alloc fun c2 => .callV ka2 (fun g => ⟨hrb.reads g, hra.reads g⟩) (.env (by (try simp only [liE, letsOf, letU, snd, List.append_nil]); rfl) (.alloc fun c3 => .alloc fun c4 => .no (by ((try simp only [evE, liE, letsOf, letU, snd]); (try simp only [cmE])) <;> simp) (.alloc fun c5 => ?_)))))
      refine .loop (fun q us m => ∃ (e : Bool) (j : Nat), j ≤ 2 ∧ us = [.b e, .i j] ∧ q = 2 - j ∧ m = m6) 2 ⟨e, 0, Nat.zero_le _, rfl, rfl, rfl⟩ ?_
      rintro q' us m7 _ ⟨e2, j, hj, rfl, rfl, rfl⟩
      refine .env (by (try simp only [liE, letsOf, letU, snd, List.append_nil]); rfl) (.ite (fun h3 => ?_) (fun h3 => ?_)) <;> ((try simp only [evE, liE, letsOf, letU, snd] at h3); (try simp only [cmE] at h3))
      · refine .chk (by ((try simp only [evE, liE, letsOf, letU, snd]); (try simp only [cmE])); omega) (.chk (by ((try simp only [evE, liE, letsOf, letU, snd]); (try simp only [cmE])); omega) (.ite (fun h4 => .alloc fun c6 => .no (by ((try simp only [evE, liE, letsOf, letU, snd]); (try simp only [cmE])); omega) (.again rfl ⟨2 - (j + 1), by omega, e2, j + 1, by omega, ?_, rfl, rfl⟩)) (fun h4 => .ite (fun h5 => .alloc fun c6 => .no (by ((try simp only [evE, liE, letsOf, letU, snd]); (try simp only [cmE])); omega) (.again rfl ⟨2 - (j + 1), by omega, e2, j + 1, by omega, ?_, rfl, rfl⟩)) (fun h5 => ?_))))
        · (simp only [evE, liE, letsOf, letU, snd, Sh.uss, Sh.us, atAddr, map_add0, List.append_nil]); rw [add_i64 j (by omega)]
        · (simp only [evE, liE, letsOf, letU, snd, Sh.uss, Sh.us, atAddr, map_add0, List.append_nil]); rw [add_i64 j (by omega)]
        · ((try simp only [evE, liE, letsOf, letU, snd] at h4); (try simp only [cmE] at h4)); ((try simp only [evE, liE, letsOf, letU, snd] at h5); (try simp only [cmE] at h5))
          omega
      · refine .callV ka3 (fun g => ⟨hro.reads g, hrb.reads g⟩) (.env (by (try simp only [liE, letsOf, letU, snd, List.append_nil]); rfl) (.no (by ((try simp only [evE, liE, letsOf, letU, snd]); (try simp only [cmE])) <;> simp) (.callV ka4 (fun g => ⟨hra.reads g, hra.reads g⟩) (.env (by (try simp only [liE, letsOf, letU, snd, List.append_nil]); rfl) (.no (by ((try simp only [evE, liE, letsOf, letU, snd]); (try simp only [cmE])) <;> simp) (.callV (c_frac 1 1) (fun _ => trivial) (.env (by (try simp only [liE, letsOf, letU, snd, List.append_nil]); rfl) (.no rfl (.callV (c_frac 1 1) (fun _ => trivial) (.env (by (try simp only [liE, letsOf, letU, snd, List.append_nil]); rfl) (.no rfl (.alloc fun c7 => ?_))))))))))))
        refine .callE (c_repI (some ⟨c7, 0, none⟩) 1 N (-1) (by simp) hN1 (by omega)) (fun g => g.cells (j := 6) rfl rfl rfl) ?_ (hargs := by show [slv (some ⟨c7, 0, none⟩) 1 1, Value.int .i64 (ar .add .i64 1 (IntKind.i64.wrap (n' : Int)))] = _; rw [eN])
        rintro v mq m8 h1 h2 ⟨qr, rfl, hrr⟩
        refine ⟨[.p qr, .i N, .i N], uOk_of rfl, (slv_fresh _ _ _ _ _).symm, ?_⟩
        have ka5 := kF qa qr N N a (List.replicate a.length (-1)) (by omega) (by rw [List.length_replicate]; omega)
        rw [J.none a (by omega) hlow, List.length_replicate, hal] at ka5
        unfold res3V at ka5
        dsimp only at ka5
        have hra8 := hra.le' h1
        have hrr8 := hrr.le' h2
        refine .env (by (try simp only [liE, letsOf, letU, snd, List.append_nil]); rfl) (.callV ka5 (fun g => ⟨hra8.reads g, hrr8.reads g⟩) (.env (by (try simp only [liE, letsOf, letU, snd, List.append_nil]); rfl) (.no (by ((try simp only [evE, liE, letsOf, letU, snd]); (try simp only [cmE])) <;> simp) (.callV (c_frac 1 1) (fun _ => trivial) (.env (by (try simp only [liE, letsOf, letU, snd, List.append_nil]); rfl) (.no rfl (.callV (c_frac 1 1) (fun _ => trivial) (.env (by (try simp only [liE, letsOf, letU, snd, List.append_nil]); rfl) (.no rfl (.again rfl ⟨2 - (i + 1), by omega, e2, i + 1, by omega, ?_, rfl, hle.trans h1⟩))))))))))
        (simp only [evE, liE, letsOf, letU, snd, Sh.uss, Sh.us, atAddr, map_add0, List.append_nil]); rw [add_i64 i (by omega)]
    · ((try simp only [evE, liE, letsOf, letU, snd] at h3); (try simp only [cmE] at h3)); ((try simp only [evE, liE, letsOf, letU, snd] at h4); (try simp only [cmE] at h4))
      omega
end Go.Proofs.YthabfpagilbplaaDoor
