/- Chapter 18: words that are good; an alignment that numbers choose. -/
import Derived.Test.YtialbhieaipcgaaDoorYa
import Derived.Test.YtialbhieaipcgaaDoorTh
set_option linter.unusedSimpArgs false
set_option linter.unusedVariables false
namespace Go.Sy
open Go Go.RowKit
theorem Good.leB {c : Cx} {L : List Nat} {m : Mem} (g : Good c L m) (ρ : Env) (bl : List Blk) (n : Nat) : m.le (blkMem L ρ (L.drop n) bl m) := fun b o hb => by
  rw [blkMem_not (fun hL => by have := (g.blk b (List.mem_of_mem_drop hL)).1; rw [this] at hb; cases hb)]
  exact hb
theorem sm_lt {n : Nat} {g h : Nat → Int} (e : ∀ i, i < n → g i ≤ h i) (a : Nat) (ha : a < n) (hl : g a < h a) : sm n g < sm n h := by
  induction n with
  | zero => omega
  | succ n ih =>
    simp only [sm]
    have hle : ∀ m, (∀ i, i < m → g i ≤ h i) → sm m g ≤ sm m h := fun m => by
      induction m with
      | zero => intro _; exact Int.le_refl _
      | succ m ih2 => intro hm; simp only [sm]; have := ih2 fun i hi => hm i (by omega); have := hm m (by omega); omega
    by_cases q : a = n
    · subst q
      have := hle a fun i hi => e i (by omega)
      omega
    · have := ih (fun i hi => e i (by omega)) (by omega)
      have := e n (by omega)
      omega
/-- Is the word k in the set? -/
def bt (s : Int) (k : Nat) : Bool := decide (ar .and .i64 (ar .shr .i64 s (k : Int)) 1 = 1)
/-- Has the word a sound left? -/
def lfB (W : List (List Snd)) (nx : List Int) (k : Nat) : Bool := decide (labAt nx k < wl W k)
def tkB (W : List (List Snd)) (nx : List Int) (s : Int) (k : Nat) : Bool := lfB W nx k && bt s k
def colS (W : List (List Snd)) (nx : List Int) (s : Int) (k : Nat) : Int := if tkB W nx s k = true then labAt nx k else -1
def anyB (f : Nat → Bool) (k : Nat) : Bool := (List.range k).any f
theorem anyB_yes {f : Nat → Bool} {n : Nat} (h : anyB f n = true) : ∃ k, k < n ∧ f k = true := by
  obtain ⟨k, hk, hf⟩ := List.any_eq_true.1 h
  exact ⟨k, List.mem_range.1 hk, hf⟩
/-- How many sounds are left. -/
def restS (W : List (List Snd)) (n : Nat) (nx : List Int) : Int := sm n fun k => wl W k - labAt nx k
/-- What the sounds taken so far and the columns are. -/
structure ChI (W : List (List Snd)) (n : Nat) (nx : List Int) (cols : List (List Int)) : Prop where
  len : nx.length = n
  le : ∀ k, k < n → 0 ≤ labAt nx k ∧ labAt nx k ≤ wl W k
  col : ∀ c ∈ cols, c.length = n ∧ ∃ x ∈ c, x ≠ -1
  row : ∀ k, k < n → rowGo 0 (rowOf cols k) = some (labAt nx k)
  cnt : (cols.length : Int) ≤ sm n (labAt nx)
theorem ChI.next {W : List (List Snd)} {n : Nat} {nx ny : List Int} {cols : List (List Int)} {s : Int} {c : List Int} (h : ChI W n nx cols) (hy : ny.length = n) (hny : ∀ k, k < n → labAt ny k = labAt nx k + if tkB W nx s k = true then 1 else 0)
    (hc : c.length = n) (hcol : ∀ k, k < n → labAt c k = colS W nx s k) (ht : anyB (tkB W nx s) n = true) : ChI W n ny (cols ++ [c]) ∧ restS W n ny < restS W n nx := by
  obtain ⟨a, ha, hta⟩ := anyB_yes ht
  have hb := h.le a ha
  refine ⟨⟨hy, fun k hk => ?_, fun d hd => ?_, fun k hk => ?_, ?_⟩, ?_⟩
  · have := h.le k hk
    rw [hny k hk]
    by_cases ht : tkB W nx s k = true
    · rw [if_pos ht]
      unfold tkB lfB at ht
      rw [Bool.and_eq_true, decide_eq_true_eq] at ht
      omega
    · rw [if_neg ht]; omega
  · rcases List.mem_append.1 hd with hd | hd
    · exact h.col d hd
    · rw [List.mem_singleton] at hd
      subst hd
      have hac : a < d.length := by omega
      refine ⟨hc, d[a], List.getElem_mem hac, ?_⟩
      rw [← labAt_get hac, hcol a ha]
      unfold colS
      rw [if_pos hta]; omega
  · have hk' := h.le k hk
    unfold rowOf
    rw [List.map_append, rowGo_append]
    have := h.row k hk
    unfold rowOf at this
    rw [this]
    show rowGo (labAt nx k) [labAt c k] = _
    rw [hcol k hk, hny k hk]
    unfold colS
    by_cases ht : tkB W nx s k = true
    · rw [if_pos ht, if_pos ht]
      simp only [rowGo]
      rw [if_neg (by omega), if_pos trivial]
    · rw [if_neg ht, if_neg ht]
      simp only [rowGo]
      rw [if_pos trivial, Int.add_zero]
  · rw [List.length_append]
    have h1 := sm_lt (n := n) (g := labAt nx) (h := labAt ny) (fun i hi => by rw [hny i hi]; split <;> omega) a ha (by rw [hny a ha, if_pos hta]; omega)
    have := h.cnt
    simp only [List.length_cons, List.length_nil]
    omega
  · exact sm_lt (fun i hi => by rw [hny i hi]; split <;> omega) a ha (by rw [hny a ha, if_pos hta]; omega)
theorem sm_le_mul {n : Nat} {g : Nat → Int} {B : Int} (h : ∀ i, i < n → g i ≤ B) : sm n g ≤ n * B := by
  induction n with
  | zero => show (0 : Int) ≤ ((0 : Nat) : Int) * B; simp
  | succ n ih =>
    have h1 := ih fun i hi => h i (by omega)
    have h2 := h n (by omega)
    show sm n g + g n ≤ ((n + 1 : Nat) : Int) * B
    rw [Int.natCast_add, Int.add_mul]
    have : ((1 : Nat) : Int) * B = B := by simp
    omega
end Go.Sy
namespace Go.Proofs.YtialbhieaipcgaaDoor
open Go Go.Sy Go.RowKit
end Go.Proofs.YtialbhieaipcgaaDoor
