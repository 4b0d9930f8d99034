/- Chapter 30: the key of a word. -/
import Derived.Test.YtpbbnmjkbfbelaaDoorJl
import Derived.Test.YtpbbnmjkbfbelaaDoorPu
import Derived.Laws.BytesArg
set_option linter.unusedSimpArgs false
set_option linter.unusedVariables false
namespace Go.Sy
open Go Go.RowKit
def kb (n : Nat) : List Int := [IntKind.u8.wrap n, IntKind.u8.wrap (ar .shr .u32 n 8), IntKind.u8.wrap (ar .shr .u32 n 16)]
def keyN (w : List Snd) : List Int := w.flatMap fun s => kb s.1 ++ kb s.2
def keyV (w : List Snd) : Value := .string (strOfNums (keyN w))
theorem keyN_snoc {w : List Snd} {j : Nat} (hj : j < w.length) : keyN (w.take (j + 1)) = keyN (w.take j) ++ (kb w[j].1 ++ kb w[j].2) := by
  unfold keyN
  rw [List.take_succ_eq_append_getElem hj, List.flatMap_append]; simp
theorem wrap8 (n : Nat) : IntKind.u8.wrap (n : Int) = ((n % 256 : Nat) : Int) := by
  have : IntKind.u8.wrap (n : Int) = (n : Int) % 256 := rfl
  rw [this]; omega
theorem kb_eq (n : Nat) : kb n = [((n % 256 : Nat) : Int), ((n / 256 % 256 : Nat) : Int), ((n / 65536 % 256 : Nat) : Int)] := by
  unfold kb
  have h1 := ar_shr n 8 (by omega)
  have h2 := ar_shr n 16 (by omega)
  have e1 : ar .shr .u32 (n : Int) 8 = ((n / 256 : Nat) : Int) := by
    rw [show (8 : Int) = ((8 : Nat) : Int) from rfl, h1, Nat.shiftRight_eq_div_pow]
  have e2 : ar .shr .u32 (n : Int) 16 = ((n / 65536 : Nat) : Int) := by
    rw [show (16 : Int) = ((16 : Nat) : Int) from rfl, h2, Nat.shiftRight_eq_div_pow]
  rw [e1, e2, wrap8, wrap8, wrap8]
theorem kb_inj {n k : Nat} (hn : n < 16777216) (hk : k < 16777216) (h : kb n = kb k) : n = k := by
  rw [kb_eq, kb_eq] at h
  simp only [List.cons.injEq, and_true] at h
  obtain ⟨h1, h2, h3⟩ := h
  have h1 : n % 256 = k % 256 := by omega
  have h2 : n / 256 % 256 = k / 256 % 256 := by omega
  have h3 : n / 65536 % 256 = k / 65536 % 256 := by omega
  omega
theorem kb_len (n : Nat) : (kb n).length = 3 := rfl
theorem kb_small (n : Nat) : ∀ x ∈ kb n, 0 ≤ x ∧ x < 256 := by
  rw [kb_eq]; simp only [List.mem_cons, List.not_mem_nil, or_false]
  rintro x (rfl | rfl | rfl) <;> omega
theorem keyN_small (w : List Snd) : ∀ x ∈ keyN w, 0 ≤ x ∧ x < 256 := by
  intro x hx
  obtain ⟨s, _, hs⟩ := List.mem_flatMap.1 hx
  rcases List.mem_append.1 hs with h | h
  · exact kb_small _ x h
  · exact kb_small _ x h
theorem valid_24 {s : Snd} (h : valid s = true) : s.1 < 16777216 ∧ s.2 < 16777216 := by
  unfold valid at h
  simp only [Bool.and_eq_true, decide_eq_true_eq] at h
  have h1 : s.1 ||| s.2 ≤ 16777215 := by omega
  have := Nat.left_le_or (n := s.1) (m := s.2)
  have := Nat.right_le_or (n := s.1) (m := s.2)
  omega
theorem keyN_inj {a b : List Snd} (ha : ∀ s ∈ a, valid s = true) (hb : ∀ s ∈ b, valid s = true) (h : keyN a = keyN b) : a = b := by
  induction a generalizing b with
  | nil =>
    cases b with
    | nil => rfl
    | cons t b => simp [keyN, kb] at h
  | cons s a ih =>
    cases b with
    | nil => simp [keyN, kb] at h
    | cons t b =>
      have e : ∀ (s : Snd) (a : List Snd), keyN (s :: a) = kb s.1 ++ (kb s.2 ++ keyN a) := fun s a => by simp [keyN]
      rw [e, e] at h
      obtain ⟨h1, h2⟩ := List.append_inj h rfl
      obtain ⟨h3, h4⟩ := List.append_inj h2 rfl
      have vs := valid_24 (ha s (by simp))
      have vt := valid_24 (hb t (by simp))
      rw [ih (fun x hx => ha x (by simp [hx])) (fun x hx => hb x (by simp [hx])) h4, Prod.ext (kb_inj vs.1 vt.1 h1) (kb_inj vs.2 vt.2 h3)]
theorem nums_inj {xs ys : List Int} (hx : ∀ x ∈ xs, 0 ≤ x ∧ x < 256) (hy : ∀ x ∈ ys, 0 ≤ x ∧ x < 256) (h : strOfNums xs = strOfNums ys) : xs = ys := by
  have h1 : (xs.map fun n => UInt8.ofNat n.toNat) = ys.map fun n => UInt8.ofNat n.toNat := by rw [← strOfNums_data, ← strOfNums_data, h]
  clear h
  induction xs generalizing ys with
  | nil => cases ys with
    | nil => rfl
    | cons y ys => simp at h1
  | cons x xs ih => cases ys with
    | nil => simp at h1
    | cons y ys =>
      simp only [List.map_cons, List.cons.injEq] at h1
      have e : x = y := by
        have h2 := congrArg UInt8.toNat h1.1
        have a := hx x (by simp); have b := hy y (by simp)
        simp only [UInt8.toNat_ofNat'] at h2
        omega
      rw [e, ih (fun z hz => hx z (by simp [hz])) (fun z hz => hy z (by simp [hz])) h1.2]
theorem keyV_inj {a b : List Snd} (ha : ∀ s ∈ a, valid s = true) (hb : ∀ s ∈ b, valid s = true) : keyV a = keyV b ↔ a = b := by
  constructor
  · intro h
    unfold keyV at h
    injection h with h
    exact keyN_inj ha hb (nums_inj (keyN_small a) (keyN_small b) h)
  · rintro rfl; rfl
end Go.Sy
namespace Go.Proofs.YtpbbnmjkbfbelaaDoor
open Go Go.Sy Go.RowKit
theorem el107 : El Tryd.prog 107 5 1 1 := El.of (by kernel_rfl)
theorem c_key (A : WD) (la : A.w.length < 2 ^ 38) : RetP Tryd.prog n_analogy_key [A.v] (fun R => WordAt R A.p A.w) (keyV A.w) := by
  refine Fn.of S_analogy_key mx [.p A.p, .i A.w.length, .i A.cap] rfl rfl fun c hp => .chk (by ((try simp only [evE, liE, letsOf, letU, snd]); (try simp only [cmE])); omega) ?_
  refine .loop (fun n us mm => ∃ (j : Nat) (q : Option Addr) (cq : Nat) (xs : List Int), us = [.p q, .i xs.length, .i cq, .i j] ∧ n + j = A.w.length ∧ xs = keyN (A.w.take j) ∧ xs.length = 6 * j ∧ Row mm 5 1 q cq xs.length (xs.map (.int .u8))) A.w.length ⟨0, none, 0, [], rfl, rfl, rfl, rfl, Row.nil _ _ _⟩ ?_
  rintro n _ m _ ⟨j, q, cq, xs, rfl, hn, hxs, hlen, hr⟩
  refine .env (by (try simp only [liE, letsOf, letU, snd, List.append_nil]); rfl) (.ite (fun h1 => ?_) (fun h1 => ?_)) <;> ((try simp only [evE, liE, letsOf, letU, snd] at h1); (try simp only [cmE] at h1))
  · have hj : j < A.w.length := by omega
    refine .loadW A.w j hj (fun g => hp.mono g.R) (.env (by (try simp only [liE, letsOf, letU, snd, List.append_nil]); rfl) (.alloc fun b0 => ?_))
    refine .loop (fun n us mm => ∃ (k : Nat) (q : Option Addr) (cq : Nat) (ys : List Int), us = [.p q, .i ys.length, .i cq, .i k] ∧ n + k = 2 ∧ ys = xs ++ (([kb A.w[j].1, kb A.w[j].2] : List (List Int)).take k).flatten ∧ Row mm 5 1 q cq ys.length (ys.map (.int .u8))) 2 ⟨0, q, cq, xs, (by (simp only [evE, liE, letsOf, letU, snd, Sh.uss, Sh.us, atAddr, map_add0, List.append_nil]) <;> rfl), rfl, by simp, hr⟩ ?_
    clear hr
    rintro n1 _ m _ ⟨k, q, cq, ys, rfl, hn1, hys, hr⟩
    have hyl : ys.length ≤ 6 * j + 6 := by
      rw [hys, List.length_append, hlen]
      obtain rfl | rfl | rfl : k = 0 ∨ k = 1 ∨ k = 2 := by omega
      · simp
      · simp [kb_len]
      · simp [kb_len]
    refine .env (by (try simp only [liE, letsOf, letU, snd, List.append_nil]); rfl) (.ite (fun h2 => .chk (by ((try simp only [evE, liE, letsOf, letU, snd]); (try simp only [cmE])); omega) (.chk (by ((try simp only [evE, liE, letsOf, letU, snd] at h2); (try simp only [cmE] at h2)); ((try simp only [evE, liE, letsOf, letU, snd]); (try simp only [cmE])); omega) (.ite (fun h3 => .alloc fun b1 => ?_) (fun h3 => .ite (fun h4 => .alloc fun b1 => ?_) (fun h4 => ?_))))) (fun h2 => .again rfl ⟨n - 1, by omega, j + 1, q, cq, ys, ?_, by omega, ?_, ?_, hr⟩)) <;> ((try simp only [evE, liE, letsOf, letU, snd] at h2); (try simp only [cmE] at h2))
    · ((try simp only [evE, liE, letsOf, letU, snd] at h3); (try simp only [cmE] at h3))
      obtain rfl : k = 0 := by omega
      refine .append (n := ys.length) (kx := 3) (qx := some ⟨b1, 0, none⟩) (capx := 3) (news := (kb A.w[j].1).map (.int .u8)) el107 hr (fun g => g.cells (j := 1) rfl rfl rfl) rfl (fun v hv => by obtain ⟨x, _, rfl⟩ := List.mem_map.1 hv; rfl) (fun h => by cases h) (by simp [maxLen]; omega) (by omega) (fun q2 k2 m2 hr2 _ _ => ?_)
      refine .env (by (try simp only [liE, letsOf, letU, snd, List.append_nil]); rfl) (.again rfl ⟨n1 - 1, by omega, 1, q2, k2, ys ++ kb A.w[j].1, ?_, by omega, ?_, ?_⟩)
      · (simp only [evE, liE, letsOf, letU, snd, Sh.uss, Sh.us, atAddr, map_add0, List.append_nil]); simp only [List.length_append, kb_len]; rfl
      · rw [hys]; simp
      · rw [List.length_append, List.map_append]; exact hr2
    · ((try simp only [evE, liE, letsOf, letU, snd] at h4); (try simp only [cmE] at h4))
      obtain rfl : k = 1 := by omega
      refine .append (n := ys.length) (kx := 3) (qx := some ⟨b1, 0, none⟩) (capx := 3) (news := (kb A.w[j].2).map (.int .u8)) el107 hr (fun g => g.cells (j := 1) rfl rfl rfl) rfl (fun v hv => by obtain ⟨x, _, rfl⟩ := List.mem_map.1 hv; rfl) (fun h => by cases h) (by simp [maxLen]; omega) (by omega) (fun q2 k2 m2 hr2 _ _ => ?_)
      refine .env (by (try simp only [liE, letsOf, letU, snd, List.append_nil]); rfl) (.again rfl ⟨n1 - 1, by omega, 2, q2, k2, ys ++ kb A.w[j].2, ?_, by omega, ?_, ?_⟩)
      · (simp only [evE, liE, letsOf, letU, snd, Sh.uss, Sh.us, atAddr, map_add0, List.append_nil]); simp only [List.length_append, kb_len]; rfl
      · rw [hys]; simp
      · rw [List.length_append, List.map_append]; exact hr2
    · ((try simp only [evE, liE, letsOf, letU, snd] at h3); (try simp only [cmE] at h3)); ((try simp only [evE, liE, letsOf, letU, snd] at h4); (try simp only [cmE] at h4)); omega
    all_goals obtain rfl : k = 2 := by omega
    · (simp only [evE, liE, letsOf, letU, snd, Sh.uss, Sh.us, atAddr, map_add0, List.append_nil]); rw [add_i64 j (by omega)]
    · rw [hys, keyN_snoc hj, hxs]; simp
    · rw [hys, List.length_append, hlen]; simp [kb_len]; omega
  · rw [List.take_of_length_le (by omega)] at hxs
    refine .extp [.v (keyV A.w)] (uOk_of rfl) (fun g w hw => ?_) (.ret rfl rfl)
    have hown := hr.owns hw.hold.2
    show (do pure (Next.value (← convert 107 9 (SV.den [] [.p A.p, .i A.w.length, .i A.cap, .p q, .i xs.length, .i cq, .i j] (.sl 3 (.lit 0) (.var 4) (.var 5))))) : Sem Next).run Tryd.prog w = _
    rw [show (SV.sl 3 (.lit 0) (.var 4) (.var 5)).den [] [.p A.p, .i A.w.length, .i A.cap, .p q, .i xs.length, .i cq, .i j] = slv q xs.length cq from (by simp only [SV.den, IT.eval, atAddr, Env.ptr, Env.int]; simp; cases q <;> simp [slv, addr_zero])]
    rw [Sem.run_bind]
    rcases hr.2 with ⟨rfl, h0, rfl⟩ | ⟨gb, cur, rfl, hg, h3, h4, h5, h6⟩
    · have : xs = [] := List.length_eq_zero_iff.1 h0
      subst this
      have := run_convert_bytes_nil (P := Tryd.prog) w 107 5 Tryd.underlying107 Tryd.underlying5 0 0 9 Tryd.underlying9
      rw [show slv none ([] : List Int).length 0 = Value.slice none 0 0 from rfl, this]
      rw [show keyV A.w = .string ByteArray.empty by unfold keyV; rw [← hxs]; rfl]
      rfl
    · have := run_convert_bytes_arg (P := Tryd.prog) w 107 5 Tryd.underlying107 Tryd.underlying5 gb 0 xs.length cq xs rfl (fun i hi => by
        rw [Nat.zero_add]
        have := hw.hold.2 gb _ hg
        simp only [World.cell?, this]
        have h7 : (cur.toList.take (xs.length * 1))[i]? = some (.int .u8 (xs.getD i 0)) := by
          rw [h6, List.getElem?_map, List.getElem?_eq_getElem hi]; simp [List.getD, List.getElem?_eq_getElem hi]
        rw [List.getElem?_take_of_lt (by omega)] at h7
        simpa using h7) 9 Tryd.underlying9
      rw [show slv (some ⟨gb, 0, none⟩) xs.length cq = Value.slice (some ⟨gb, 0, none⟩) xs.length cq from rfl, this]
      rw [show keyV A.w = .string (strOfNums xs) by unfold keyV; rw [← hxs]]
      rfl
end Go.Proofs.YtpbbnmjkbfbelaaDoor
