/- EditKnown: what the law's code answers. -/
import Derived.Test.YtedfogpnmpmggaaDoorGi
import Derived.Test.YtedfogpnmpmggaaDoorHf
set_option linter.unusedSimpArgs false
set_option linter.unusedVariables false
namespace Go.Sy
open Go Go.RowKit
/-! How many alignments there are where all costs are 0: a table, row by row. -/
def zw1 (f : Nat → Nat) : Nat → Nat
  | 0 => 1
  | k + 1 => sat (sat (f k) (f (k + 1))) (zw1 f k)
def zways : Nat → Nat → Nat
  | 0 => fun _ => 1
  | n + 1 => zw1 (zways n)
def zgo (x : Nat) : List Nat → List Nat
  | a :: b :: l => let y := sat (sat a b) x; y :: zgo y (b :: l)
  | _ => []
def zrow : Nat → List Nat
  | 0 => List.replicate 33 1
  | n + 1 => 1 :: zgo 1 (zrow n)
theorem zgo_at (n : Nat) (l : List Nat) : ∀ (j x : Nat), x = zways (n + 1) j → (∀ k v, l[k]? = some v → v = zways n (j + k)) → ∀ k v, (zgo x l)[k]? = some v → v = zways (n + 1) (j + 1 + k) := by
  induction l with
  | nil => intro j x _ _ k v h; simp [zgo] at h
  | cons a l ih =>
    cases l with
    | nil => intro j x _ _ k v h; simp [zgo] at h
    | cons b l =>
      intro j x hx hl k v h
      have ea := hl 0 a rfl
      have eb := hl 1 b rfl
      have ey : sat (sat a b) x = zways (n + 1) (j + 1) := by rw [hx, ea, eb, Nat.add_zero]; rfl
      cases k with
      | zero => simp [zgo] at h; rw [← h, ey]
      | succ k =>
        simp only [zgo, List.getElem?_cons_succ] at h
        have := ih (j + 1) _ ey (fun k v hk => by
          have := hl (k + 1) v (by simpa using hk)
          rw [this]; congr 1; omega) k v h
        rw [this]; congr 1; omega
theorem zrow_at (n : Nat) : ∀ k v, (zrow n)[k]? = some v → v = zways n k := by
  induction n with
  | zero =>
    intro k v h
    simp only [zrow, List.getElem?_replicate] at h
    split at h
    · cases h; cases k <;> rfl
    · cases h
  | succ n ih =>
    intro k v h
    cases k with
    | zero => simp [zrow] at h; rw [← h]; rfl
    | succ k =>
      simp only [zrow, List.getElem?_cons_succ] at h
      have := zgo_at n (zrow n) 0 1 rfl (fun k v hk => by rw [ih k v hk, Nat.zero_add]) k v h
      rw [this]; congr 1; omega
theorem rst_zero {d : Snd → Snd → Int} (h : ∀ x y, d x y = 0) (a b : List Snd) : rst d 0 a b = 0 := by
  have h1 := rst_pos (d := d) (g := 0) (Int.le_refl _) (fun x y => by rw [h]; exact Int.le_refl _) a b
  have h2 := rst_le (d := d) (g := 0) a b
  simp at h2
  omega
theorem way_zero {d : Snd → Snd → Int} (h : ∀ x y, d x y = 0) (a b : List Snd) : way d 0 a b = zways a.length b.length := by
  refine pair_ind (M := fun a b => way d 0 a b = zways a.length b.length) (by rw [way_nn]; rfl) ?_ ?_ ?_ a b
  · intro y b e; rw [way_nc, e]; rfl
  · intro x a e; rw [way_cn, e]; cases a <;> rfl
  · intro x a y b e1 e2 e3
    rw [way_cc]
    simp only [h, rst_zero h, Int.add_zero, if_true, e1, e2, e3]
    rfl
end Go.Sy
namespace Go.Proofs.YtedfogpnmpmggaaDoor
open Go Go.Sy Go.RowKit
abbrev z32 : List Snd := List.replicate 32 (0, 0)
abbrev over : List Snd := List.replicate 32 (0, 0) ++ [(2, 5)]
theorem y_dist : distE [2, 3, 4] 3 [(2, 5)] [(5, 2)] = (6, 0) := by decide +kernel
theorem y_align : alignE [2, 3, 4] 3 [(2, 5)] [(5, 2)] = [(0, -1), (-1, 0)] := by decide +kernel
theorem y_check : checkE [2, 3, 4] 3 [[(2, 5)], [(5, 2)]] = 0 := by decide +kernel
theorem y_ways : waysE [] 0 [(2, 5), (5, 2)] [(2, 5), (5, 2)] = (13, 0) := by decide +kernel
theorem y_row : (zrow 32)[32]? = some (2 ^ 63) := by decide +kernel
theorem y_over : waysE [] 0 z32 z32 = (0, 7) := by
  have h : ∀ x y, dC [] 0 x y = 0 := fun x y => by
    unfold dC distC
    split
    · rfl
    · split
      · rfl
      · simp [sumW]
  unfold waysE
  rw [if_neg (by decide +kernel), if_pos]
  rw [way_zero h]
  exact (zrow_at 32 32 _ y_row).symm
theorem y_ratio0 : ratioE [2, 3, 4] 3 [] [] = ((0, 1), 0) := by decide +kernel
theorem y_ratio1 : ratioE [2, 3, 4] 3 [(2, 5)] [(5, 2)] = ((1, 1), 0) := by decide +kernel
theorem y_bad1 : distE [] (-1) [(1, 1)] over = (0, 2) := by decide +kernel
theorem y_bad2 : distE [2, 3, 4] 3 [(1, 1)] over = (0, 14) := by decide +kernel
theorem y_long : longE over [(1, 1)] = (0, 11) := by decide +kernel
theorem y_score : scoreE [2, 3, 4] 3 [(2, 5), (5, 2)] [(2, 5), (5, 2)] [(1, 0)] = (0, 8) := by decide +kernel
theorem y_mat1 (l : List (List Snd)) : matE [] (-1) l = ([], 2) := by unfold matE; rw [if_pos (by decide +kernel)]; rfl
theorem y_mat2 (l : List (List Snd)) (h : l.length = 65) : matE [2, 3, 4] 3 l = ([], 12) := by unfold matE; rw [if_neg (by decide +kernel), if_pos (by omega)]
theorem y_near1 : nearE [2, 3, 4] 3 [(1, 1)] [] = (0, 0, 14) := by decide +kernel
theorem y_near2 : nearE [2, 3, 4] 3 [(2, 5), (5, 2)] [] = (0, 0, 5) := by decide +kernel
theorem y_near3 (l : List (List Snd)) (h : l.length = 257) : nearE [2, 3, 4] 3 [(2, 5), (5, 2)] l = (0, 0, 12) := by unfold nearE; rw [if_neg (by decide +kernel), if_pos (by omega)]
theorem y_top : distE [] 1073741824 z32 [] = (34359738368, 0) := by decide +kernel
theorem wok_z : Wok z32 := fun s hs => by rw [(List.mem_replicate.1 hs).2]; exact ⟨by decide, by decide⟩
theorem wok_over : Wok over := fun s hs => by
  rcases List.mem_append.1 hs with h | h
  · exact wok_z s h
  · exact wok_p s h
theorem wok_bad : Wok [(1, 1)] := by simp [Wok, Sok]
theorem wok_nil : Wok [] := by simp [Wok]
abbrev WN : WD := ⟨none, 0, []⟩
theorem big65 : bigCells Tryd.prog 22 (some 65) = (List.replicate 65 WN).map WD.v := by kernel_rfl
theorem big256 : bigCells Tryd.prog 22 (some 256) = (List.replicate 256 WN).map WD.v := by kernel_rfl
theorem el63' : El Tryd.prog 63 22 1 24 := El.of (by kernel_rfl)
theorem words_nil {V : Mv} {q : Option Addr} {l : List WD} (h : Cells V q (l.map WD.v)) (hn : ∀ x ∈ l, WordAt V x.p x.w) : WordsAt V q l := ⟨h, hn⟩
set_option maxRecDepth 20000 in
set_option maxHeartbeats 4000000 in
theorem l_EditKnown : RetP Tryd.prog n_law17_EditKnown [] TabOk (.bool true) := by
  refine Fn.of S_law17_EditKnown mx [] rfl rfl fun c hp => .callV c_p17 (fun _ => trivial) (.callV c_a17 (fun _ => trivial) (.alloc fun b0 => .alloc fun b1 => .alloc fun b2 => ?_))
  generalize Mem.emp = m
  refine .env (by (try simp only [liE, letsOf, letU, snd, List.append_nil]); rfl) (.callM c_cost rfl rfl (fun _ => trivial) ?_)
  rintro v mq hfr ⟨t, e, rfl, hm⟩
  refine ⟨[.p (some ⟨t, 0, none⟩), .i 3, .i 3, .i 3], uOk_of rfl, rfl, ?_⟩
  replace hm := (Mem.join_new (hfr t (by rw [hm]; simp)).1).trans hm
  generalize Mem.join m mq = m1 at hm  ⊢
  clear hfr m; rename Mem => m
  have k1 := c_editDist ⟨some ⟨b0, 0, none⟩, 2, [(2, 5)]⟩ ⟨some ⟨b0, 2, none⟩, 1, [(5, 2)]⟩ (some ⟨t, 0, none⟩) 3 [2, 3, 4] 3 wok_p wok_a
  simp only [y_dist] at k1
  refine .env (by (try simp only [liE, letsOf, letU, snd, List.append_nil]); rfl) (.callV k1 (fun g => ⟨g.cells (j := 0) rfl rfl rfl, g.cells (j := 0) rfl rfl rfl, cells_of_mem g hm, hp.mono g.R⟩) ?_)
  clear k1 hm
  refine .env (by (try simp only [liE, letsOf, letU, snd, List.append_nil]); rfl) (.callM c_cost rfl rfl (fun _ => trivial) ?_)
  rintro v mq hfr ⟨t, e, rfl, hm⟩
  refine ⟨[.p (some ⟨t, 0, none⟩), .i 3, .i 3, .i 3], uOk_of rfl, rfl, ?_⟩
  replace hm := (Mem.join_new (hfr t (by rw [hm]; simp)).1).trans hm
  generalize Mem.join m mq = m2 at hm  ⊢
  clear hfr m; rename Mem => m
  have k1 := c_editAlign ⟨some ⟨b0, 0, none⟩, 2, [(2, 5)]⟩ ⟨some ⟨b0, 2, none⟩, 1, [(5, 2)]⟩ (some ⟨t, 0, none⟩) 3 [2, 3, 4] 3 wok_p wok_a
  simp only [y_align, y_check] at k1
  refine .env (by (try simp only [liE, letsOf, letU, snd, List.append_nil]); rfl) (.callM k1 rfl rfl (fun g => ⟨g.cells (j := 0) rfl rfl rfl, g.cells (j := 0) rfl rfl rfl, cells_of_mem g hm, hp.mono g.R⟩) ?_)
  rintro v mq hfr ⟨ql, cl, rfl, hal⟩
  refine ⟨[.p ql, .i 2, .i cl, .i 0], uOk_of rfl, rfl, ?_⟩
  replace hal : Row (m.join mq) 57 2 ql cl 2 (pcells [(0, -1), (-1, 0)]) := hal.joinR fun b hb => (hfr b hb).1
  clear k1 hm
  generalize Mem.join m mq = m' at hal ⊢
  clear hfr m; rename Mem => m
  have k1 := c_editWays ⟨some ⟨b0, 0, none⟩, 2, [(2, 5), (5, 2)]⟩ ⟨some ⟨b0, 0, none⟩, 2, [(2, 5), (5, 2)]⟩ none 0 [] 0 wok_pa wok_pa
  simp only [y_ways] at k1
  refine .env (by (try simp only [liE, letsOf, letU, snd, List.append_nil]); rfl) (.callV k1 (fun g => ⟨g.cells (j := 0) rfl rfl rfl, g.cells (j := 0) rfl rfl rfl, fun i x hx => by simp at hx, hp.mono g.R⟩) ?_)
  clear k1
  have k1 := c_editWays ⟨some ⟨b1, 0, none⟩, 32, z32⟩ ⟨some ⟨b1, 0, none⟩, 32, z32⟩ none 0 [] 0 wok_z wok_z
  simp only [y_over] at k1
  refine .env (by (try simp only [liE, letsOf, letU, snd, List.append_nil]); rfl) (.callV k1 (fun g => ⟨g.cells (j := 1) rfl rfl rfl, g.cells (j := 1) rfl rfl rfl, fun i x hx => by simp at hx, hp.mono g.R⟩) ?_)
  clear k1
  refine .env (by (try simp only [liE, letsOf, letU, snd, List.append_nil]); rfl) (.callM c_cost rfl rfl (fun _ => trivial) ?_)
  rintro v mq hfr ⟨t, e, rfl, hm⟩
  refine ⟨[.p (some ⟨t, 0, none⟩), .i 3, .i 3, .i 3], uOk_of rfl, rfl, ?_⟩
  replace hm := (Mem.join_new (hfr t (by rw [hm]; simp)).1).trans hm
  replace hal := hal.joinL (mq := mq)
  generalize Mem.join m mq = m3 at hm hal ⊢
  clear hfr m; rename Mem => m
  have k1 := c_editRatio ⟨none, 0, []⟩ ⟨none, 0, []⟩ (some ⟨t, 0, none⟩) 3 [2, 3, 4] 3 wok_nil wok_nil
  simp only [y_ratio0] at k1
  refine .env (by (try simp only [liE, letsOf, letU, snd, List.append_nil]); rfl) (.callV k1 (fun g => ⟨fun i x hx => by simp [wcells] at hx, fun i x hx => by simp [wcells] at hx, cells_of_mem g hm, hp.mono g.R⟩) ?_)
  clear k1 hm
  refine .alloc fun b3 => ?_
  refine .env (by (try simp only [liE, letsOf, letU, snd, List.append_nil]); rfl) (.callM c_cost rfl rfl (fun _ => trivial) ?_)
  rintro v mq hfr ⟨t, e, rfl, hm⟩
  refine ⟨[.p (some ⟨t, 0, none⟩), .i 3, .i 3, .i 3], uOk_of rfl, rfl, ?_⟩
  replace hm := (Mem.join_new (hfr t (by rw [hm]; simp)).1).trans hm
  replace hal := hal.joinL (mq := mq)
  generalize Mem.join m mq = m4 at hm hal ⊢
  clear hfr m; rename Mem => m
  have k1 := c_editRatio ⟨some ⟨b0, 0, none⟩, 2, [(2, 5)]⟩ ⟨some ⟨b0, 2, none⟩, 1, [(5, 2)]⟩ (some ⟨t, 0, none⟩) 3 [2, 3, 4] 3 wok_p wok_a
  simp only [y_ratio1] at k1
  refine .env (by (try simp only [liE, letsOf, letU, snd, List.append_nil]); rfl) (.callV k1 (fun g => ⟨g.cells (j := 0) rfl rfl rfl, g.cells (j := 0) rfl rfl rfl, cells_of_mem g hm, hp.mono g.R⟩) ?_)
  clear k1 hm
  refine .alloc fun b4 => ?_
  refine .env (by (try simp only [liE, letsOf, letU, snd, List.append_nil]); rfl) (.callV c_p17 (fun _ => trivial) (.alloc fun b5 => ?_))
  refine .env (by (try simp only [liE, letsOf, letU, snd, List.append_nil]); rfl) (.appendOwn (b0 := b1) (n := 32) (xs := wcells z32) (qx := some ⟨b5, 0, none⟩) (kx := 1) (capx := 1) (news := wcells [(2, 5)]) el22 rfl (fun g => g.cells (j := 1) rfl rfl rfl) (fun g => g.cells (j := 5) rfl rfl rfl) rfl (by simp [wcells, scell, Value.oneCell']) (fun h => by cases h) (by decide) (by decide) (fun q5 k5 m' hr5 _ hk => ?_))
  replace hr5 : Row m' 56 2 q5 k5 33 (wcells over) := (hr5 (by decide)).1
  replace hal := hal.keep (m' := m') fun g _ hg => hk g hg
  clear hk m; rename Mem => m
  have k1 := c_editDist ⟨some ⟨b2, 0, none⟩, 1, [(1, 1)]⟩ ⟨q5, k5, over⟩ none 0 [] (-1) wok_bad wok_over
  simp only [y_bad1] at k1
  refine .env (by (try simp only [liE, letsOf, letU, snd, List.append_nil]); rfl) (.callV k1 (fun g => ⟨g.cells (j := 2) rfl rfl rfl, hr5.reads g, fun i x hx => by simp at hx, hp.mono g.R⟩) ?_)
  clear k1
  refine .env (by (try simp only [liE, letsOf, letU, snd, List.append_nil]); rfl) (.callV c_p17 (fun _ => trivial) (.alloc fun b6 => ?_))
  refine .env (by (try simp only [liE, letsOf, letU, snd, List.append_nil]); rfl) (.appendOwn (b0 := b1) (n := 32) (xs := wcells z32) (qx := some ⟨b6, 0, none⟩) (kx := 1) (capx := 1) (news := wcells [(2, 5)]) el22 rfl (fun g => g.cells (j := 1) rfl rfl rfl) (fun g => g.cells (j := 6) rfl rfl rfl) rfl (by simp [wcells, scell, Value.oneCell']) (fun h => by cases h) (by decide) (by decide) (fun q6 k6 m' hr6 _ hk => ?_))
  replace hr6 : Row m' 56 2 q6 k6 33 (wcells over) := (hr6 (by decide)).1
  replace hal := hal.keep (m' := m') fun g _ hg => hk g hg
  replace hr5 := hr5.keep (m' := m') fun g _ hg => hk g hg
  clear hk m; rename Mem => m
  refine .env (by (try simp only [liE, letsOf, letU, snd, List.append_nil]); rfl) (.callM c_cost rfl rfl (fun _ => trivial) ?_)
  rintro v mq hfr ⟨t, e, rfl, hm⟩
  refine ⟨[.p (some ⟨t, 0, none⟩), .i 3, .i 3, .i 3], uOk_of rfl, rfl, ?_⟩
  replace hm := (Mem.join_new (hfr t (by rw [hm]; simp)).1).trans hm
  replace hal := hal.joinL (mq := mq)
  replace hr5 := hr5.joinL (mq := mq)
  replace hr6 := hr6.joinL (mq := mq)
  generalize Mem.join m mq = m5 at hm hal hr5 hr6 ⊢
  clear hfr m; rename Mem => m
  have k1 := c_editDist ⟨some ⟨b2, 0, none⟩, 1, [(1, 1)]⟩ ⟨q6, k6, over⟩ (some ⟨t, 0, none⟩) 3 [2, 3, 4] 3 wok_bad wok_over
  simp only [y_bad2] at k1
  refine .env (by (try simp only [liE, letsOf, letU, snd, List.append_nil]); rfl) (.callV k1 (fun g => ⟨g.cells (j := 2) rfl rfl rfl, hr6.reads g, cells_of_mem g hm, hp.mono g.R⟩) ?_)
  clear k1 hm
  refine .env (by (try simp only [liE, letsOf, letU, snd, List.append_nil]); rfl) (.callV c_p17 (fun _ => trivial) (.alloc fun b7 => ?_))
  refine .env (by (try simp only [liE, letsOf, letU, snd, List.append_nil]); rfl) (.appendOwn (b0 := b1) (n := 32) (xs := wcells z32) (qx := some ⟨b7, 0, none⟩) (kx := 1) (capx := 1) (news := wcells [(2, 5)]) el22 rfl (fun g => g.cells (j := 1) rfl rfl rfl) (fun g => g.cells (j := 7) rfl rfl rfl) rfl (by simp [wcells, scell, Value.oneCell']) (fun h => by cases h) (by decide) (by decide) (fun q7 k7 m' hr7 _ hk => ?_))
  replace hr7 : Row m' 56 2 q7 k7 33 (wcells over) := (hr7 (by decide)).1
  replace hal := hal.keep (m' := m') fun g _ hg => hk g hg
  replace hr5 := hr5.keep (m' := m') fun g _ hg => hk g hg
  replace hr6 := hr6.keep (m' := m') fun g _ hg => hk g hg
  clear hk m; rename Mem => m
  have k1 := c_longest q7 (some ⟨b2, 0, none⟩) k7 1 over [(1, 1)] wok_over wok_bad
  simp only [y_long] at k1
  refine .env (by (try simp only [liE, letsOf, letU, snd, List.append_nil]); rfl) (.callV k1 (fun g => ⟨hr7.reads g, g.cells (j := 2) rfl rfl rfl⟩) ?_)
  clear k1
  refine .alloc fun b8 => ?_
  refine .env (by (try simp only [liE, letsOf, letU, snd, List.append_nil]); rfl) (.callM c_cost rfl rfl (fun _ => trivial) ?_)
  rintro v mq hfr ⟨t, e, rfl, hm⟩
  refine ⟨[.p (some ⟨t, 0, none⟩), .i 3, .i 3, .i 3], uOk_of rfl, rfl, ?_⟩
  replace hm := (Mem.join_new (hfr t (by rw [hm]; simp)).1).trans hm
  replace hal := hal.joinL (mq := mq)
  replace hr5 := hr5.joinL (mq := mq)
  replace hr6 := hr6.joinL (mq := mq)
  replace hr7 := hr7.joinL (mq := mq)
  generalize Mem.join m mq = m6 at hm hal hr5 hr6 hr7 ⊢
  clear hfr m; rename Mem => m
  have k1 := c_editScore ⟨some ⟨b0, 0, none⟩, 2, [(2, 5), (5, 2)]⟩ ⟨some ⟨b0, 0, none⟩, 2, [(2, 5), (5, 2)]⟩ (some ⟨b8, 0, none⟩) 1 [(1, 0)] (some ⟨t, 0, none⟩) 3 [2, 3, 4] 3 wok_pa wok_pa (by decide)
  simp only [y_score] at k1
  refine .env (by (try simp only [liE, letsOf, letU, snd, List.append_nil]); rfl) (.callV k1 (fun g => ⟨g.cells (j := 0) rfl rfl rfl, g.cells (j := 0) rfl rfl rfl, g.cells (j := 8) rfl rfl rfl, cells_of_mem g hm, hp.mono g.R⟩) ?_)
  clear k1 hm
  refine .env (by (try simp only [liE, letsOf, letU, snd, List.append_nil]); rfl) (.allocb fun t hmt hL hown => ?_)
  rw [big65]
  replace hal := hal.keep (m' := m.upd t (.cells ((List.replicate 65 WN).map WD.v).toArray 22 (0, 0))) fun g _ hg => Mem.upd_other _ _ fun e => hg (e ▸ hmt)
  replace hr5 := hr5.keep (m' := m.upd t (.cells ((List.replicate 65 WN).map WD.v).toArray 22 (0, 0))) fun g _ hg => Mem.upd_other _ _ fun e => hg (e ▸ hmt)
  replace hr6 := hr6.keep (m' := m.upd t (.cells ((List.replicate 65 WN).map WD.v).toArray 22 (0, 0))) fun g _ hg => Mem.upd_other _ _ fun e => hg (e ▸ hmt)
  replace hr7 := hr7.keep (m' := m.upd t (.cells ((List.replicate 65 WN).map WD.v).toArray 22 (0, 0))) fun g _ hg => Mem.upd_other _ _ fun e => hg (e ▸ hmt)
  have hm : (m.upd t (.cells ((List.replicate 65 WN).map WD.v).toArray 22 (0, 0))) t = some (.cells ((List.replicate 65 WN).map WD.v).toArray 22 (0, 0)) := Mem.upd_same ..
  generalize Mem.upd m t _ = m' at hm hal hr5 hr6 hr7 ⊢
  clear hmt hL hown m; rename Mem => m
  have k1 := c_editMatrix (some ⟨t, 0, none⟩) 65 (List.replicate 65 WN) none 0 [] (-1) (fun x hx => by rw [(List.mem_replicate.1 hx).2]; exact wok_nil) (by rw [List.length_replicate]; decide) (by rw [List.length_replicate]; exact Nat.le_refl _)
  simp only [y_mat1] at k1
  refine .env (by (try simp only [liE, letsOf, letU, snd, List.append_nil]); rfl) (.callM k1 rfl rfl (fun g => ⟨⟨cells_of_mem g hm, fun x hx => by rw [(List.mem_replicate.1 hx).2]; exact fun i y hy => by simp [wcells] at hy⟩, fun i x hx => by simp at hx, hp.mono g.R⟩) ?_)
  rintro v mq hfr ⟨qm, km, rfl, _⟩
  refine ⟨[.p qm, .i 0, .i km, .i 2], uOk_of rfl, rfl, ?_⟩
  clear k1 hm hfr
  replace hal := hal.joinL (mq := mq)
  replace hr5 := hr5.joinL (mq := mq)
  replace hr6 := hr6.joinL (mq := mq)
  replace hr7 := hr7.joinL (mq := mq)
  generalize Mem.join m mq = m' at hal hr5 hr6 hr7 ⊢
  clear m; rename Mem => m
  refine .alloc fun b9 => .alloc fun b10 => .env (by (try simp only [liE, letsOf, letU, snd, List.append_nil]); rfl) (.appendOwn (b0 := b9) (n := 64) (xs := (List.replicate 64 WN).map WD.v) (qx := some ⟨b10, 0, none⟩) (kx := 1) (capx := 1) (news := [WD.v ⟨some ⟨b2, 0, none⟩, 1, [(1, 1)]⟩]) el63' (by simp) (fun g => g.cells (j := 9) rfl rfl rfl) (fun g => g.cells (j := 10) rfl rfl rfl) rfl (by simp [WD.v, slv_eq, Value.oneCell']) (fun h => by cases h) (by decide) (by decide) (fun q10 k10 m' hr10 _ hk => ?_))
  replace hr10 : Row m' 22 1 q10 k10 65 ((List.replicate 64 WN ++ [(⟨some ⟨b2, 0, none⟩, 1, [(1, 1)]⟩ : WD)]).map WD.v) := by rw [List.map_append]; exact (hr10 (by decide)).1
  replace hal := hal.keep (m' := m') fun g _ hg => hk g hg
  replace hr5 := hr5.keep (m' := m') fun g _ hg => hk g hg
  replace hr6 := hr6.keep (m' := m') fun g _ hg => hk g hg
  replace hr7 := hr7.keep (m' := m') fun g _ hg => hk g hg
  clear hk m; rename Mem => m
  refine .env (by (try simp only [liE, letsOf, letU, snd, List.append_nil]); rfl) (.callM c_cost rfl rfl (fun _ => trivial) ?_)
  rintro v mq hfr ⟨t, e, rfl, hm⟩
  refine ⟨[.p (some ⟨t, 0, none⟩), .i 3, .i 3, .i 3], uOk_of rfl, rfl, ?_⟩
  replace hm := (Mem.join_new (hfr t (by rw [hm]; simp)).1).trans hm
  replace hal := hal.joinL (mq := mq)
  replace hr5 := hr5.joinL (mq := mq)
  replace hr6 := hr6.joinL (mq := mq)
  replace hr7 := hr7.joinL (mq := mq)
  replace hr10 := hr10.joinL (mq := mq)
  generalize Mem.join m mq = m7 at hm hal hr5 hr6 hr7 hr10 ⊢
  clear hfr m; rename Mem => m
  have k1 := c_editMatrix q10 k10 (List.replicate 64 WN ++ [(⟨some ⟨b2, 0, none⟩, 1, [(1, 1)]⟩ : WD)]) (some ⟨t, 0, none⟩) 3 [2, 3, 4] 3 (fun x hx => by
    rcases List.mem_append.1 hx with h | h
    · rw [(List.mem_replicate.1 h).2]; exact wok_nil
    · rw [List.mem_singleton.1 h]; exact wok_bad) (by simp) (by simpa using hr10.cap_le)
  rw [y_mat2 _ (by simp)] at k1
  refine .env (by (try simp only [liE, letsOf, letU, snd, List.append_nil]); rfl) (.callM k1 rfl rfl (fun g => ⟨⟨hr10.reads g, fun x hx => by
    rcases List.mem_append.1 hx with h | h
    · rw [(List.mem_replicate.1 h).2]; exact fun i y hy => by simp [wcells] at hy
    · rw [List.mem_singleton.1 h]; exact g.cells (j := 2) rfl rfl rfl⟩, cells_of_mem g hm, hp.mono g.R⟩) ?_)
  rintro v mq hfr ⟨qm2, km2, rfl, _⟩
  refine ⟨[.p qm2, .i 0, .i km2, .i 12], uOk_of rfl, rfl, ?_⟩
  clear k1 hm hfr hr10
  replace hal := hal.joinL (mq := mq)
  replace hr5 := hr5.joinL (mq := mq)
  replace hr6 := hr6.joinL (mq := mq)
  replace hr7 := hr7.joinL (mq := mq)
  generalize Mem.join m mq = m' at hal hr5 hr6 hr7 ⊢
  clear m; rename Mem => m
  refine .env (by (try simp only [liE, letsOf, letU, snd, List.append_nil]); rfl) (.callM c_cost rfl rfl (fun _ => trivial) ?_)
  rintro v mq hfr ⟨t, e, rfl, hm⟩
  refine ⟨[.p (some ⟨t, 0, none⟩), .i 3, .i 3, .i 3], uOk_of rfl, rfl, ?_⟩
  replace hm := (Mem.join_new (hfr t (by rw [hm]; simp)).1).trans hm
  replace hal := hal.joinL (mq := mq)
  replace hr5 := hr5.joinL (mq := mq)
  replace hr6 := hr6.joinL (mq := mq)
  replace hr7 := hr7.joinL (mq := mq)
  generalize Mem.join m mq = m8 at hm hal hr5 hr6 hr7 ⊢
  clear hfr m; rename Mem => m
  have k1 := c_editNear ⟨some ⟨b2, 0, none⟩, 1, [(1, 1)]⟩ none 0 [] (some ⟨t, 0, none⟩) 3 [2, 3, 4] 3 wok_bad (by simp) (by simp)
  simp only [List.map_nil, y_near1] at k1
  refine .env (by (try simp only [liE, letsOf, letU, snd, List.append_nil]); rfl) (.callV k1 (fun g => ⟨g.cells (j := 2) rfl rfl rfl, ⟨fun i x hx => by simp at hx, by simp⟩, cells_of_mem g hm, hp.mono g.R⟩) ?_)
  clear k1 hm
  refine .env (by (try simp only [liE, letsOf, letU, snd, List.append_nil]); rfl) (.callM c_cost rfl rfl (fun _ => trivial) ?_)
  rintro v mq hfr ⟨t, e, rfl, hm⟩
  refine ⟨[.p (some ⟨t, 0, none⟩), .i 3, .i 3, .i 3], uOk_of rfl, rfl, ?_⟩
  replace hm := (Mem.join_new (hfr t (by rw [hm]; simp)).1).trans hm
  replace hal := hal.joinL (mq := mq)
  replace hr5 := hr5.joinL (mq := mq)
  replace hr6 := hr6.joinL (mq := mq)
  replace hr7 := hr7.joinL (mq := mq)
  generalize Mem.join m mq = m9 at hm hal hr5 hr6 hr7 ⊢
  clear hfr m; rename Mem => m
  have k1 := c_editNear ⟨some ⟨b0, 0, none⟩, 2, [(2, 5), (5, 2)]⟩ none 0 [] (some ⟨t, 0, none⟩) 3 [2, 3, 4] 3 wok_pa (by simp) (by simp)
  simp only [List.map_nil, y_near2] at k1
  refine .env (by (try simp only [liE, letsOf, letU, snd, List.append_nil]); rfl) (.callV k1 (fun g => ⟨g.cells (j := 0) rfl rfl rfl, ⟨fun i x hx => by simp at hx, by simp⟩, cells_of_mem g hm, hp.mono g.R⟩) ?_)
  clear k1 hm
  refine .env (by (try simp only [liE, letsOf, letU, snd, List.append_nil]); rfl) (.allocb fun t hmt hL hown => ?_)
  rw [big256]
  replace hal := hal.keep (m' := m.upd t (.cells ((List.replicate 256 WN).map WD.v).toArray 22 (0, 0))) fun g _ hg => Mem.upd_other _ _ fun e => hg (e ▸ hmt)
  replace hr5 := hr5.keep (m' := m.upd t (.cells ((List.replicate 256 WN).map WD.v).toArray 22 (0, 0))) fun g _ hg => Mem.upd_other _ _ fun e => hg (e ▸ hmt)
  replace hr6 := hr6.keep (m' := m.upd t (.cells ((List.replicate 256 WN).map WD.v).toArray 22 (0, 0))) fun g _ hg => Mem.upd_other _ _ fun e => hg (e ▸ hmt)
  replace hr7 := hr7.keep (m' := m.upd t (.cells ((List.replicate 256 WN).map WD.v).toArray 22 (0, 0))) fun g _ hg => Mem.upd_other _ _ fun e => hg (e ▸ hmt)
  have hrb : Row (m.upd t (.cells ((List.replicate 256 WN).map WD.v).toArray 22 (0, 0))) 22 1 (some ⟨t, 0, none⟩) 256 256 ((List.replicate 256 WN).map WD.v) := ⟨by simp, .inr ⟨t, _, rfl, Mem.upd_same .., Nat.le_refl _, by decide, by simp, by rw [List.take_of_length_le (by simp)]⟩⟩
  generalize Mem.upd m t _ = m' at hrb hal hr5 hr6 hr7 ⊢
  clear hmt hL hown m; rename Mem => m
  refine .alloc fun b11 => .env (by (try simp only [liE, letsOf, letU, snd, List.append_nil]); rfl) (.append (q := some ⟨t, 0, none⟩) (cap := 256) (n := 256) (qx := some ⟨b11, 0, none⟩) (kx := 1) (capx := 1) (news := [WD.v ⟨some ⟨b2, 0, none⟩, 1, [(1, 1)]⟩]) el63' hrb (fun g => g.cells (j := 11) rfl rfl rfl) (by simp) (by simp [WD.v, slv_eq, Value.oneCell']) (fun h => by cases h) (by decide) (by decide) (fun q11 k11 m' hr11 hk hlast => ?_))
  replace hr11 : Row m' 22 1 q11 k11 257 ((List.replicate 256 WN ++ [(⟨some ⟨b2, 0, none⟩, 1, [(1, 1)]⟩ : WD)]).map WD.v) := by rw [List.map_append]; exact hr11
  replace hal := hal.keep (m' := m') fun g hg hg' => hk g (fun _ => by decide) hg'
  clear hk hrb hlast m hr5 hr6 hr7; rename Mem => m
  refine .env (by (try simp only [liE, letsOf, letU, snd, List.append_nil]); rfl) (.callM c_cost rfl rfl (fun _ => trivial) ?_)
  rintro v mq hfr ⟨t, e, rfl, hm⟩
  refine ⟨[.p (some ⟨t, 0, none⟩), .i 3, .i 3, .i 3], uOk_of rfl, rfl, ?_⟩
  replace hm := (Mem.join_new (hfr t (by rw [hm]; simp)).1).trans hm
  replace hal := hal.joinL (mq := mq)
  replace hr11 := hr11.joinL (mq := mq)
  generalize Mem.join m mq = m10 at hm hal hr11 ⊢
  clear hfr m; rename Mem => m
  have k1 := c_editNear ⟨some ⟨b0, 0, none⟩, 2, [(2, 5), (5, 2)]⟩ q11 k11 (List.replicate 256 WN ++ [(⟨some ⟨b2, 0, none⟩, 1, [(1, 1)]⟩ : WD)]) (some ⟨t, 0, none⟩) 3 [2, 3, 4] 3 wok_pa (fun x hx => by
    rcases List.mem_append.1 hx with h | h
    · rw [(List.mem_replicate.1 h).2]; exact wok_nil
    · rw [List.mem_singleton.1 h]; exact wok_bad) (by simp)
  rw [y_near3 _ (by simp)] at k1
  refine .env (by (try simp only [liE, letsOf, letU, snd, List.append_nil]); rfl) (.callV k1 (fun g => ⟨g.cells (j := 0) rfl rfl rfl, ⟨hr11.reads g, fun x hx => by
    rcases List.mem_append.1 hx with h | h
    · rw [(List.mem_replicate.1 h).2]; exact fun i y hy => by simp [wcells] at hy
    · rw [List.mem_singleton.1 h]; exact g.cells (j := 2) rfl rfl rfl⟩, cells_of_mem g hm, hp.mono g.R⟩) ?_)
  clear k1 hm hr11
  have k1 := c_editDist ⟨some ⟨b1, 0, none⟩, 32, z32⟩ ⟨none, 0, []⟩ none 0 [] 1073741824 wok_z wok_nil
  simp only [y_top] at k1
  refine .env (by (try simp only [liE, letsOf, letU, snd, List.append_nil]); rfl) (.callV k1 (fun g => ⟨g.cells (j := 1) rfl rfl rfl, fun i x hx => by simp [wcells] at hx, fun i x hx => by simp at hx, hp.mono g.R⟩) ?_)
  clear k1
  refine .env (by (try simp only [liE, letsOf, letU, snd, List.append_nil]); rfl) (.yes rfl (.alloc fun b12 => ?_))
  have k1 := c_same ql (some ⟨b12, 0, none⟩) cl 2 [(0, -1), (-1, 0)] [(0, -1), (-1, 0)] (by decide)
  refine .callV k1 (fun g => ⟨hal.reads g, g.cells (j := 12) rfl rfl rfl⟩) (.env (by (try simp only [liE, letsOf, letU, snd, List.append_nil]); rfl) (.yes rfl (.callV c_works17 (fun g => hp.mono g.R) (.ret rfl rfl))))
end Go.Proofs.YtedfogpnmpmggaaDoor
