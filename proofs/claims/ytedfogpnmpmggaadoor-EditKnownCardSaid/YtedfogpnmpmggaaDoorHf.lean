/- edit.Matrix. -/
import Derived.Test.YtedfogpnmpmggaaDoorBa
import Derived.Test.YtedfogpnmpmggaaDoorHb
set_option linter.unusedSimpArgs false
set_option linter.unusedVariables false
namespace Go.Sy
open Go Go.RowKit
/-! A square of numbers in one row. -/
def mt (n : Nat) (h : Nat → Nat → Int) : List Int := (List.range (n * n)).map fun t => h (t / n) (t % n)
theorem mt_len (n : Nat) (h : Nat → Nat → Int) : (mt n h).length = n * n := by simp [mt]
theorem place_lt {n r s : Nat} (hr : r < n) (hs : s < n) : r * n + s < n * n := by
  have : (r + 1) * n ≤ n * n := Nat.mul_le_mul_right n hr
  rw [Nat.add_mul] at this
  omega
theorem place_div {n r s : Nat} (hs : s < n) : (r * n + s) / n = r ∧ (r * n + s) % n = s := by
  have hn : 0 < n := by omega
  rw [Nat.mul_comm]
  refine ⟨?_, ?_⟩
  · rw [Nat.mul_add_div hn, Nat.div_eq_of_lt hs]; rfl
  · rw [Nat.mul_add_mod, Nat.mod_eq_of_lt hs]
theorem mt_at {n r s : Nat} (h : Nat → Nat → Int) (hr : r < n) (hs : s < n) : (mt n h)[r * n + s]? = some (h r s) := by
  unfold mt
  rw [List.getElem?_map, List.getElem?_range (place_lt hr hs), Option.map_some, (place_div hs).1, (place_div hs).2]
theorem mt_congr {n : Nat} {h h' : Nat → Nat → Int} (he : ∀ r s, r < n → s < n → h r s = h' r s) : mt n h = mt n h' := by
  unfold mt
  refine List.map_congr_left fun t ht => ?_
  have ht := List.mem_range.1 ht
  have hn : 0 < n := by
    cases n with
    | zero => simp at ht
    | succ n => omega
  exact he _ _ (Nat.div_lt_of_lt_mul ht) (Nat.mod_lt _ hn)
theorem mt_set {n r s : Nat} (h : Nat → Nat → Int) (v : Int) (hs : s < n) : (mt n h).set (r * n + s) v = mt n (upd2 h r s v) := by
  refine List.ext_getElem (by simp [mt_len]) fun t h1 h2 => ?_
  simp only [List.getElem_set, mt, List.getElem_map, List.getElem_range, upd2]
  by_cases e : r * n + s = t
  · rw [if_pos e, ← e, (place_div hs).1, (place_div hs).2, if_pos ⟨rfl, rfl⟩]
  · rw [if_neg e, if_neg]
    rintro ⟨e1, e2⟩
    refine e ?_
    rw [← e1, ← e2, Nat.mul_comm]; exact Nat.div_add_mod t n
theorem mt_zero (n : Nat) : mt n (fun _ _ => 0) = List.replicate (n * n) 0 := by
  unfold mt
  rw [List.map_const', List.length_range]
/-- The distances' square: 0 on the diagonal, the same on both sides. -/
def dm (f : Nat → Nat → Int) : Nat → Nat → Int := fun r s => if r = s then 0 else f (max r s) (min r s)
/-- What of it stands when the walk is at i, j. -/
def dmAt (f : Nat → Nat → Int) (i j : Nat) : Nat → Nat → Int := fun r s => if max r s < i ∨ (max r s = i ∧ min r s < j) then dm f r s else 0
theorem dmAt_next (f : Nat → Nat → Int) {i j : Nat} (h : j < i) (r s : Nat) : dmAt f i (j + 1) r s = upd2 (upd2 (dmAt f i j) i j (f i j)) j i (f i j) r s := by
  unfold upd2
  by_cases h1 : r = j ∧ s = i
  · obtain ⟨rfl, rfl⟩ := h1
    rw [if_pos ⟨rfl, rfl⟩]
    unfold dmAt dm
    rw [if_pos (by omega), if_neg (by omega), Nat.max_eq_right (by omega), Nat.min_eq_left (by omega)]
  · rw [if_neg h1]
    by_cases h2 : r = i ∧ s = j
    · obtain ⟨rfl, rfl⟩ := h2
      rw [if_pos ⟨rfl, rfl⟩]
      unfold dmAt dm
      rw [if_pos (by omega), if_neg (by omega), Nat.max_eq_left (by omega), Nat.min_eq_right (by omega)]
    · rw [if_neg h2]
      unfold dmAt
      by_cases h3 : max r s < i ∨ (max r s = i ∧ min r s < j)
      · rw [if_pos h3, if_pos (by omega)]
      · rw [if_neg h3, if_neg (by omega)]
theorem dmAt_row (f : Nat → Nat → Int) (i r s : Nat) : dmAt f i i r s = dmAt f (i + 1) 0 r s := by
  unfold dmAt
  by_cases h3 : max r s < i ∨ (max r s = i ∧ min r s < i)
  · rw [if_pos h3, if_pos (by omega)]
  · rw [if_neg h3]
    by_cases h4 : max r s < i + 1 ∨ (max r s = i + 1 ∧ min r s < 0)
    · rw [if_pos h4]; unfold dm; rw [if_pos (by omega)]
    · rw [if_neg h4]
theorem dmAt_all (f : Nat → Nat → Int) {n r s : Nat} (hr : r < n) (hs : s < n) : dmAt f n 0 r s = dm f r s := by
  unfold dmAt; rw [if_pos (by omega)]
def matE (ws : List Int) (gap : Int) (l : List (List Snd)) : List Int × Int :=
  if checkE ws gap [] ≠ 0 then ([], checkE ws gap []) else if l.length > 64 then ([], 12) else if checkE ws gap l ≠ 0 then ([], checkE ws gap l) else
    (mt l.length (dm fun r s => rst (dC ws gap) gap (l.getD r []) (l.getD s [])), 0)
end Go.Sy
namespace Go.Proofs.YtedfogpnmpmggaaDoor
open Go Go.Sy Go.RowKit
theorem int2 : (Tryd.prog.info? 2).map (fun i => (i.zero, i.size, i.bytes)) = some (some (.int .i64 0), 1, 8) := by kernel_rfl
set_option maxHeartbeats 400000 in
theorem c_editMatrix (ql : Option Addr) (cl : Nat) (l : List WD) (pc : Option Addr) (cc : Nat) (ws : List Int) (gap : Int) (hl : ∀ x ∈ l, Wok x.w) (hll : l.length < 2 ^ 62) (hcl : l.length ≤ cl) :
    FnM Tryd.prog n_edit_Matrix [slv ql l.length cl, costs pc ws.length cc gap] (fun R => WordsAt R ql l ∧ CostsAt R pc ws ∧ TabOk R) fun v mq _ =>
      ∃ q cq, v = .tuple #[slv q (matE ws gap (l.map (·.w))).1.length cq, .int .i64 (matE ws gap (l.map (·.w))).2] ∧ Row mq 2 1 q cq (matE ws gap (l.map (·.w))).1.length ((matE ws gap (l.map (·.w))).1.map (.int .i64)) := by
  refine FnM.of S_edit_Matrix mx [.p ql, .i l.length, .i cl, .p pc, .i ws.length, .i cc, .i gap] rfl rfl fun c hp => .alloc fun b0 => ?_
  obtain ⟨hp2, hp3, hp4⟩ := hp
  refine .callV (c_editCheck pc cc ws gap none 0 [] (by simp) (by simp)) (fun g => ⟨hp3.mono g.R, fun i x hx => by simp at hx, by simp⟩) (.ite (fun h1 => .ret rfl ⟨none, 0, ?_⟩) (fun h1 => .chk (by ((try simp only [evE, liE, letsOf, letU, snd]); (try simp only [cmE])); omega) (.ite (fun h2 => .ret rfl ⟨none, 0, ?_⟩) (fun h2 => .callV (c_editCheck pc cc ws gap ql cl l hl hll) (fun g => ⟨hp3.mono g.R, hp2.mono g.R⟩) (.ite (fun h3 => .ret rfl ⟨none, 0, ?_⟩) (fun h3 => .chk (by ((try simp only [evE, liE, letsOf, letU, snd]); (try simp only [cmE])); omega) (.chk (by ((try simp only [evE, liE, letsOf, letU, snd]); (try simp only [cmE])); omega) ?_))))))) <;> ((try simp only [evE, liE, letsOf, letU, snd] at h1); (try simp only [cmE] at h1))
  · have : matE ws gap (l.map (·.w)) = ([], checkE ws gap []) := by unfold matE; exact if_pos h1
    rw [this]; exact ⟨rfl, Row.nil _ _ _⟩
  · ((try simp only [evE, liE, letsOf, letU, snd] at h2); (try simp only [cmE] at h2))
    have : matE ws gap (l.map (·.w)) = ([], 12) := by unfold matE; rw [if_neg (fun h : checkE ws gap [] ≠ 0 => h h1), if_pos (by rw [List.length_map]; omega)]
    rw [this]; exact ⟨rfl, Row.nil _ _ _⟩
  · ((try simp only [evE, liE, letsOf, letU, snd] at h2); (try simp only [cmE] at h2))
    ((try simp only [evE, liE, letsOf, letU, snd] at h3); (try simp only [cmE] at h3))
    have : matE ws gap (l.map (·.w)) = ([], checkE ws gap (l.map (·.w))) := by unfold matE; rw [if_neg (fun h : checkE ws gap [] ≠ 0 => h h1), if_neg (by rw [List.length_map]; omega), if_pos h3]
    rw [this]; exact ⟨rfl, Row.nil _ _ _⟩
  ((try simp only [evE, liE, letsOf, letU, snd] at h2); (try simp only [cmE] at h2))
  ((try simp only [evE, liE, letsOf, letU, snd] at h3); (try simp only [cmE] at h3))
  have hspec : matE ws gap (l.map (·.w)) = (mt l.length (dm fun r s => rst (dC ws gap) gap ((l.map (·.w)).getD r []) ((l.map (·.w)).getD s [])), 0) := by
    unfold matE; rw [if_neg (fun h : checkE ws gap [] ≠ 0 => h h1), if_neg (by rw [List.length_map]; omega), if_neg (fun h => h h3), List.length_map]
  rw [hspec]
  generalize hf : (fun r s => rst (dC ws gap) gap ((l.map (·.w)).getD r []) ((l.map (·.w)).getD s [])) = f
  obtain ⟨hc, hl0⟩ := checkE_of h3
  have hN : l.length * l.length ≤ 64 * 64 := Nat.mul_le_mul (by omega) (by omega)
  have emul : ar .mul .i64 (l.length : Int) (l.length : Int) = ((l.length * l.length : Nat) : Int) := by rw [mulI (by rw [← Int.natCast_mul]; omega) (by rw [← Int.natCast_mul]; omega), Int.natCast_mul]
  have hdist : ∀ (i j : Nat) (hi : i < l.length) (hj : j < l.length), RetP Tryd.prog n_edit_Dist [l[i].v, l[j].v, costs pc ws.length cc gap] (fun R => WordAt R l[i].p l[i].w ∧ WordAt R l[j].p l[j].w ∧ CostsAt R pc ws ∧ TabOk R) (.tuple #[.int .i64 (f i j), .int .i64 0]) := fun i j hi hj => by
    have h := c_editDist l[i] l[j] pc cc ws gap (hl _ (List.getElem_mem hi)) (hl _ (List.getElem_mem hj))
    have e : distE ws gap l[i].w l[j].w = (f i j, 0) := by
      unfold distE
      rw [if_neg (by
        simp only [ne_eq, Decidable.not_not]
        refine checkE_mk hc fun x hx => ?_
        simp only [List.mem_cons, List.not_mem_nil, or_false] at hx
        rcases hx with rfl | rfl
        · exact hl0 _ (List.mem_map.2 ⟨_, List.getElem_mem hi, rfl⟩)
        · exact hl0 _ (List.mem_map.2 ⟨_, List.getElem_mem hj, rfl⟩))]
      show (rst (dC ws gap) gap l[i].w l[j].w, (0 : Int)) = _
      rw [← hf]
      simp [hi, hj]
    rw [e] at h
    exact h
  refine .make (l.length * l.length) Tryd.underlying23 int2 rfl (by omega) (by simp [maxLen]; omega) (fun g9 hg9 hrow => ?_) (by show Value.int _ (ar .mul .i64 (l.length : Int) (l.length : Int)) = _; rw [emul]) (by show Value.int _ (ar .mul .i64 (l.length : Int) (l.length : Int)) = _; rw [emul])
  have hpl : ∀ {r s : Nat}, r < l.length → s < l.length → r * l.length + s < l.length * l.length := fun h h' => place_lt h h'
  have hml : ∀ h, (mt l.length h).length = l.length * l.length := mt_len l.length
  have hmz : mt l.length (fun _ _ => 0) = List.replicate (l.length * l.length) 0 := mt_zero l.length
  have eat : ∀ (i j : Nat), i < l.length → j < l.length → ar .add .i64 (ar .mul .i64 (i : Int) (l.length : Int)) (j : Int) = ((i * l.length + j : Nat) : Int) := fun i j hi hj => by
    have := hpl hi hj
    have h1 : (i : Int) * (l.length : Int) = ((i * l.length : Nat) : Int) := (Int.natCast_mul _ _).symm
    rw [mulI (by rw [h1]; omega) (by rw [h1]; omega), h1, addI (by omega) (by omega), Int.natCast_add]
  have emap : ∀ (h : Nat → Nat → Int) (r t : Nat) (v : Int), t < l.length → ((mt l.length h).map (Value.int .i64)).set (r * l.length + t) (.int .i64 v) = (mt l.length (upd2 h r t v)).map (Value.int .i64) := fun h r t v ht => by rw [← List.map_set, mt_set h v ht]
  revert hrow
  generalize Mem.upd _ g9 _ = m1
  generalize l.length * l.length = N at *
  intro hrow
  replace hrow : Row m1 2 1 (some ⟨g9, 0, none⟩) N N ((mt l.length (dmAt f 0 0)).map (Value.int .i64)) := by
    rw [mt_congr (h' := fun _ _ => 0) (fun r s _ _ => by unfold dmAt; rw [if_neg (by omega)]), hmz, List.map_replicate]; exact hrow
  refine .env (by (try simp only [liE, letsOf, letU, snd, List.append_nil]); rfl) (.chk (by ((try simp only [evE, liE, letsOf, letU, snd]); (try simp only [cmE])); omega) (.loop (fun n us m => ∃ i : Nat, us = [.i i] ∧ n + i = l.length ∧ Row m 2 1 (some ⟨g9, 0, none⟩) N N ((mt l.length (dmAt f i 0)).map (Value.int .i64))) l.length ⟨0, rfl, rfl, hrow⟩ ?_))
  clear hrow
  rintro n _ m _ ⟨i, rfl, hn, hrow⟩
  refine .ite (fun h4 => ?_) (fun h4 => .ret rfl ⟨some ⟨g9, 0, none⟩, N, ?_⟩) <;> ((try simp only [evE, liE, letsOf, letU, snd] at h4); (try simp only [cmE] at h4))
  · have hi : i < l.length := by omega
    refine .loadWD l i hi (fun g => hp2.1.mono g.R) (.chk (by ((try simp only [evE, liE, letsOf, letU, snd]); (try simp only [cmE])); omega) (.chk (by ((try simp only [evE, liE, letsOf, letU, snd]); (try simp only [cmE])); omega) (.loop (fun n' us m => ∃ j : Nat, us = [.i j] ∧ n' + j = i ∧ Row m 2 1 (some ⟨g9, 0, none⟩) N N ((mt l.length (dmAt f i j)).map (Value.int .i64))) i ⟨0, rfl, by omega, hrow⟩ ?_)))
    clear hrow
    rintro n' _ m _ ⟨j, rfl, hn', hrow⟩
    refine .ite (fun h5 => ?_) (fun h5 => .again rfl ⟨n - 1, by omega, i + 1, ?_, by omega, ?_⟩) <;> ((try simp only [evE, liE, letsOf, letU, snd] at h5); (try simp only [cmE] at h5))
    · have hj : j < l.length := by omega
      obtain ⟨bq, oq, hqe⟩ := hp2.1.some (i := j) (by simpa using hj)
      refine .env (by (try simp only [liE, letsOf, letU, snd, List.append_nil]); rfl) (.chk (by ((try simp only [evE, liE, letsOf, letU, snd]); (try simp only [cmE])); simp [hqe]; omega) (.loadS (l.map WD.v) j l[j].p l[j].w.length l[j].cap ?_ (by simp [hj, WD.v]) (fun g => hp2.1.mono g.R) (.callV (hdist i j hi hj) (fun g => ⟨(hp2.2 _ (List.getElem_mem hi)).mono g.R, (hp2.2 _ (List.getElem_mem hj)).mono g.R, hp3.mono g.R, hp4.mono g.R⟩) (.chk (by ((try simp only [evE, liE, letsOf, letU, snd]); (try simp only [cmE])); omega) (.chk (by ((try simp only [evE, liE, letsOf, letU, snd]); (try simp only [cmE])); omega) ?_)))))
      · show (if (cl : Int) = 0 then (0 : Int) else 0) + (j : Int) * ((1 : Nat) : Int) = j
        split <;> omega
      refine .env (by (try simp only [liE, letsOf, letU, snd, List.append_nil]); rfl) (.storeR (i * l.length + j) (hpl hi hj) hrow rfl (by show ar .add .i64 (ar .mul .i64 (i : Int) (l.length : Int)) (j : Int) = _; exact eat i j hi hj) (by show ((N : Nat) : Int) = _; rfl) (fun m2 g2 hg2 hrow2 hs2 => .storeR (j * l.length + i) (hpl hj hi) hrow2 rfl (by show ar .add .i64 (ar .mul .i64 (j : Int) (l.length : Int)) (i : Int) = _; exact eat j i hj hi) (by show ((N : Nat) : Int) = _; rfl) (fun m3 g3 hg3 hrow3 hs3 => .again rfl ⟨n' - 1, by omega, j + 1, ?_, by omega, ?_⟩)))
      · (simp only [evE, liE, letsOf, letU, snd, Sh.uss, Sh.us, atAddr, map_add0, List.append_nil]); rw [add_i64 j (by omega)]
      · rw [mt_congr fun r s _ _ => dmAt_next f (show j < i by omega) r s, ← emap _ _ _ _ hi, ← emap _ _ _ _ hj]; exact hrow3
    · (simp only [evE, liE, letsOf, letU, snd, Sh.uss, Sh.us, atAddr, map_add0, List.append_nil]); rw [add_i64 i (by omega)]
    · rw [show j = i by omega] at hrow
      rw [← mt_congr fun r s _ _ => dmAt_row f i r s]; exact hrow
  · rw [show i = l.length by omega, mt_congr fun r s hr hs => dmAt_all f hr hs] at hrow
    rw [hml]; exact ⟨rfl, hrow⟩
end Go.Proofs.YtedfogpnmpmggaaDoor
