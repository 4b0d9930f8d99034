/- What is known of the world, with its footprint; operations without panic in a canonical order; and: what the canonical order gives, every order that the edges allow gives. -/
import Derived.CallsIn
import Derived.OrdersHeld
import Derived.Below
set_option linter.unusedSimpArgs false
set_option linter.unusedVariables false
namespace Go.Sy
open Go

structure HW where
  H : World → Prop
  own : Nat → Prop
  stab : ∀ w w' : World, H w → w.heap.size ≤ w'.heap.size → (∀ b, own b → w'.heap[b]? = w.heap[b]?) → w'.tape = w.tape → w'.os = w.os → w'.output = w.output → H w'
  inb : ∀ w b, H w → own b → b < w.heap.size
theorem HW.eq {S S' : HW} (h1 : S.H = S'.H) (h2 : S.own = S'.own) : S = S' := by
  cases S; cases S'; cases h1; cases h2; rfl
structure Grow (S : HW) (w : World) (S' : HW) (w' : World) : Prop where
  size : w.heap.size ≤ w'.heap.size
  same : ∀ k, k < w.heap.size → ¬ S.own k → ¬ S'.own k ∧ w'.heap[k]? = w.heap[k]?
  tape : w'.tape = w.tape
  os : w'.os = w.os
  output : w'.output = w.output
def Disj (F S : HW) : Prop := ∀ b, F.own b → ¬ S.own b
theorem Disj.symm {F S : HW} (h : Disj F S) : Disj S F := fun b h1 h2 => h b h2 h1
theorem Grow.keeps {S S' F : HW} {w w' : World} (h : Grow S w S' w') (hF : F.H w) (hd : Disj F S) : F.H w' ∧ Disj F S' :=
  ⟨F.stab w w' hF h.size (fun b hb => (h.same b (F.inb w b hF hb) (hd b hb)).2) h.tape h.os h.output, fun b hb => (h.same b (F.inb w b hF hb) (hd b hb)).1⟩
def HW.add (S : HW) (b : Nat) (o : Obj) : HW where
  H w := S.H w ∧ w.heap[b]? = some o
  own k := S.own k ∨ k = b
  stab w w' := fun ⟨h1, h2⟩ hs hk ht ho hu => ⟨S.stab w w' h1 hs (fun k hk' => hk k (.inl hk')) ht ho hu, (hk b (.inr rfl)).trans h2⟩
  inb w k := fun ⟨h1, h2⟩ hk => hk.elim (S.inb w k h1) fun e => e ▸ (Array.getElem?_eq_some_iff.1 h2).1
theorem HW.add_comm (S : HW) (b c : Nat) (o p : Obj) : (S.add b o).add c p = (S.add c p).add b o :=
  HW.eq (funext fun w => propext (by simp only [HW.add]; exact and_right_comm)) (funext fun k => propext (by simp only [HW.add]; exact or_right_comm))
theorem heap_alloc_lt (w : World) (o : Obj) (k : Nat) (h : k < w.heap.size) : (w.alloc o).heap[k]? = w.heap[k]? := by
  show (w.heap.push o)[k]? = _
  rw [Array.getElem?_push, if_neg (by omega)]
theorem heap_alloc_eq (w : World) (o : Obj) : (w.alloc o).heap[w.heap.size]? = some o := by
  show (w.heap.push o)[w.heap.size]? = some o
  simp
theorem HW.alloc {S : HW} {w : World} (h : S.H w) (o : Obj) : S.H (w.alloc o) :=
  S.stab w _ h (by simp) (fun b hb => heap_alloc_lt w o b (S.inb w b h hb)) rfl rfl rfl
theorem HW.fresh {S : HW} {w : World} (h : S.H w) : ¬ S.own w.heap.size := fun hb => Nat.lt_irrefl _ (S.inb w _ h hb)
theorem HW.alloc_add {S : HW} {w : World} (h : S.H w) (o : Obj) : (S.add w.heap.size o).H (w.alloc o) := ⟨S.alloc h o, heap_alloc_eq w o⟩

def wideR (r : Option Nat) : Fence := { Fence.wide with round := r }
theorem callsIn_wideR {r : Option Nat} {n : Nat} {P : Program} {f : FuncId} {args : Array Value} {w : World} {R : Ending → World → Prop} (h : Calls P f args w R) :
    CallsIn (wideR r) n P f args w R := by
  have h' : CallsIn Fence.wide 0 P f args w R := callsIn_wide.2 h
  exact ⟨trivial, fun cs _ => h'.2 cs (room_wide _)⟩

section
variable {P : Program} {ops : Array Oper}

def opW (P : Program) (o : Oper) (a : Act) (w : World) (K : Act → World → Prop) : Prop :=
  (∃ v w', (execOp a.eval o).run P w = .ok (.value v) w' ∧ K (a.put o.dst v) w') ∨
  (∃ w', (execOp a.eval o).run P w = .ok .skip w' ∧ K (a.put o.dst undef) w') ∨
  (∃ f args w', (execOp a.eval o).run P w = .ok (.enter f args) w' ∧ Calls P f args w' fun e w'' => ∃ v, e = .returned v ∧ K (a.put o.dst v) w'') ∨
  (∃ l f tmps assign body w', (execOp a.eval o).run P w = .ok (.round l f tmps assign body) w' ∧ RoundIn Fence.wide 0 P l f tmps assign body w' fun e w'' => ∃ v, e = .returned v ∧ K (a.put o.dst v) w'')

theorem opW.mono {o : Oper} {a : Act} {w : World} {K K' : Act → World → Prop} (hK : ∀ a w, K a w → K' a w) (h : opW P o a w K) : opW P o a w K' := by
  rcases h with ⟨v, w', hr, hk⟩ | ⟨w', hr, hk⟩ | ⟨f, args, w', hr, hk⟩ | ⟨l, f, t, as, b, w', hr, hk⟩
  · exact .inl ⟨v, w', hr, hK _ _ hk⟩
  · exact .inr (.inl ⟨w', hr, hK _ _ hk⟩)
  · exact .inr (.inr (.inl ⟨f, args, w', hr, hk.mono fun e w'' ⟨v, he, hv⟩ => ⟨v, he, hK _ _ hv⟩⟩))
  · exact .inr (.inr (.inr ⟨l, f, t, as, b, w', hr, hk.mono fun e w'' ⟨v, he, hv⟩ => ⟨v, he, hK _ _ hv⟩⟩))

theorem opW.wpIn {r : Option Nat} {n : Nat} {o : Oper} {a : Act} {w : World} {K : Act → World → Prop} {Q : Exit → Act → World → Prop} (hd : ∀ c, o.op ≠ .defer c) (h : opW P o a w K) :
    o.wpIn (wideR r) n P a w K Q := by
  refine ⟨fun _ _ => trivial, ?_⟩
  rw [Oper.semAt_eq _ _ _ hd]
  rcases h with ⟨v, w', hr, hk⟩ | ⟨w', hr, hk⟩ | ⟨f, args, w', hr, hk⟩ | ⟨l, f, t, as, b, w', hr, hk⟩
  · rw [hr]; exact hk
  · rw [hr]; exact hk
  · rw [hr]
    refine ⟨fun h => by simp [wideR, Fence.wide] at h, callsIn_wideR (hk.mono ?_)⟩
    rintro e w'' ⟨v, rfl, hv⟩; exact hv
  · rw [hr]
    refine ⟨fun h => by simp [wideR, Fence.wide] at h, ?_⟩
    have hk' := hk.mono (R' := fun | .returned v, w'' => K (a.put o.dst v) w'' | .panicked chain, w'' => Q (.panic chain) a w'' | .outgrown, _ => LetsOut Q) (by
      rintro e w'' ⟨v, rfl, hv⟩; exact hv)
    exact ⟨trivial, fun c cs _ => hk'.2 c cs (room_wide _)⟩

def opI (P : Program) (ops : Array Oper) (i : Nat) (K : Act → World → Prop) (a : Act) (w : World) : Prop :=
  match ops[i]? with
  | none => K a w
  | some o => if Region.wanted o (yielded ops a.tmps) = true then opW P o a w K else K (a.put o.dst undef) w
theorem opI.mono {i : Nat} {a : Act} {w : World} {K K' : Act → World → Prop} (hK : ∀ a w, K a w → K' a w) (h : opI P ops i K a w) : opI P ops i K' a w := by
  unfold opI at *
  cases ho : ops[i]? with
  | none => simp only [ho] at h ⊢; exact hK _ _ h
  | some o =>
    simp only [ho] at h ⊢
    split
    · rename_i hw; rw [if_pos hw] at h; exact h.mono hK
    · rename_i hw; rw [if_neg hw] at h; exact hK _ _ h
def opsW (P : Program) (ops : Array Oper) (K : Act → World → Prop) : List Nat → Act → World → Prop
  | [], a, w => K a w
  | i :: l, a, w => opI P ops i (opsW P ops K l) a w
theorem opsW.wpOpsIn {r : Option Nat} {n : Nat} {K : Act → World → Prop} {Q : Exit → Act → World → Prop} (hd : ∀ (j : Nat) o, ops[j]? = some o → ∀ c, o.op ≠ .defer c) (hK : ∀ a w, K a w → Q .normal a w) :
    ∀ (l : List Nat) (a : Act) (w : World), opsW P ops K l a w → wpOpsIn (wideR r) n P ops Q l a w
  | [], a, w, h => hK a w h
  | i :: l, a, w, h => by
    unfold opsW opI at h
    unfold Go.wpOpsIn
    cases ho : ops[i]? with
    | none => simp only [ho] at h ⊢; exact opsW.wpOpsIn hd hK l a w h
    | some o =>
      simp only [ho] at h ⊢
      split
      · rename_i hw; rw [if_pos hw] at h
        exact (h.mono fun a w h => opsW.wpOpsIn (r := r) (n := n) hd hK l a w h).wpIn (hd i o ho)
      · rename_i hw; rw [if_neg hw] at h
        exact ⟨fun _ _ => trivial, opsW.wpOpsIn hd hK l _ w h⟩

/-! ### A canonical order -/
inductive Kd where
  | pure
  | load
  | alloc
  | eff
  deriving DecidableEq, Repr, Inhabited
def isConstOp : Operand → Bool | .const _ => true | _ => false
def kd : Op → Kd
  | .move _ | .assign _ | .pick .. | .build .. | .binOp .. | .unOp .. | .makeFunc .. | .fieldAddr .. | .field .. | .indexAddr .. | .index .. | .extract .. | .nilCheck _ | .convert .. | .slice .. => .pure
  | .call { callee := .builtin .len, .. } | .call { callee := .builtin .min, .. } | .call { callee := .builtin .max, .. } => .pure
  | .load .. => .load
  | .lookup .. => .load
  | .alloc _ | .box .. | .buildSlice .. | .makeSlice .. => .alloc
  | _ => .eff
abbrev Ent := Nat × Bool × Nat
def KeptOp (P : Program) (c : Sem Next) (S S' : HW) : Prop := (∃ v, (∀ w, S.H w → c.run P w = .ok (.value v) w) ∧ ∀ w, S'.H w → c.run P w = .ok (.value v) w) ∨
  ∀ w', S'.H w' → ∃ w, S.H w ∧ (∀ b o, ¬ S.own b → w'.heap[b]? = some o → w.heap[b]? = some o) ∧ ∀ v, c.run P w = .ok (.value v) w → c.run P w' = .ok (.value v) w'
theorem KeptOp.of {P : Program} {c : Sem Next} {S S' : HW} (h : ∀ w, S'.H w → S.H w) : KeptOp P c S S' := .inr fun w' h' => ⟨w', h w' h', fun _ _ _ q => q, fun _ q => q⟩
theorem KeptOp.add {P : Program} {c : Sem Next} {S S' : HW} (h : KeptOp P c S S') {b : Nat} {o : Obj} (hb : ¬ S.own b) : KeptOp P c (S.add b o) (S'.add b o) := by
  rcases h with ⟨v, h1, h2⟩ | h
  · exact .inl ⟨v, fun w hw => h1 w hw.1, fun w hw => h2 w hw.1⟩
  · refine .inr fun w' h' => ?_
    obtain ⟨w, h1, h2, h3⟩ := h w' h'.1
    exact ⟨w, ⟨h1, h2 b o hb h'.2⟩, fun k q hk hq => h2 k q (fun e => hk (.inl e)) hq, h3⟩
theorem KeptOp.use {P : Program} {c : Sem Next} {S S' : HW} (h : KeptOp P c S S') (hne : ∃ w, S.H w) {v : Value} (hv : ∀ w, S.H w → c.run P w = .ok (.value v) w) {w : World} (hw : S'.H w) : c.run P w = .ok (.value v) w := by
  rcases h with ⟨u, h1, h2⟩ | h
  · obtain ⟨w0, h0⟩ := hne
    have e := (hv w0 h0).symm.trans (h1 w0 h0)
    simp only [Result.ok.injEq, Next.value.injEq, and_true] at e
    rw [e]; exact h2 w hw
  · obtain ⟨w0, q1, _, q3⟩ := h w hw
    exact q3 v (hv w0 q1)
section
variable (P : Program) (ops : Array Oper) (F : HW)
def PStep (e : Ent) (next : HW → Act → Prop) (S : HW) (a : Act) : Prop := ∃ o, ops[e.1]? = some o ∧
  (Region.wanted o (yielded ops a.tmps) = false → next S (a.put o.dst undef)) ∧
  (Region.wanted o (yielded ops a.tmps) = true →
    ((kd o.op = .pure ∨ kd o.op = .load) ∧ ∃ v, (∀ w, S.H w → (execOp a.eval o).run P w = .ok (.value v) w) ∧ (e.2.1 = true → ∀ w, (execOp a.eval o).run P w = .ok (.value v) w) ∧ next S (a.put o.dst v)) ∨
    (kd o.op = .alloc ∧ ∃ (mk : Nat → Value) (obj : Obj), (∀ w, (execOp a.eval o).run P w = .ok (.value (mk w.heap.size)) (w.alloc obj)) ∧ ∀ b, ¬ S.own b → ¬ F.own b → next (S.add b obj) (a.put o.dst (mk b))) ∨
    (kd o.op = .eff ∧ ∀ w, S.H w → F.H w → Disj F S → opW P o a w fun a' w' => ∃ v S', a' = a.put o.dst v ∧ S'.H w' ∧ Grow S w S' w' ∧ (∀ i, e.2.2.testBit i = true → ∀ oi, ops[i]? = some oi → KeptOp P (execOp a.eval oi) S S') ∧ next S' a'))
def Plan (K : Act → World → Prop) : List Ent → HW → Act → Prop
  | [], S, a => ∀ w, S.H w → F.H w → Disj F S → K a w
  | e :: l, S, a => PStep P ops F e (Plan K l) S a
end
section
variable {P : Program} {ops : Array Oper} {F : HW}
def NE (F S : HW) : Prop := ∃ w, S.H w ∧ F.H w ∧ Disj F S
theorem NE.add {S : HW} {b : Nat} {obj : Obj} (h : NE F S) (h1 : ¬ S.own b) (h2 : ¬ F.own b) : NE F (S.add b obj) := by
  obtain ⟨w, hS, hF, hd⟩ := h
  let w' : World := { w with heap := (w.heap ++ Array.replicate (b + 1 - w.heap.size) default).setIfInBounds b obj }
  have hw' : w'.heap.size = w.heap.size + (b + 1 - w.heap.size) := by simp [w']
  have hsz : w.heap.size ≤ w'.heap.size := by omega
  have hb : w'.heap[b]? = some obj := by
    show ((w.heap ++ _).setIfInBounds b obj)[b]? = _
    rw [Array.getElem?_setIfInBounds_self, if_pos (by simp; omega)]
  have ho : ∀ k, k < w.heap.size → k ≠ b → w'.heap[k]? = w.heap[k]? := fun k hk hne => by
    show ((w.heap ++ _).setIfInBounds b obj)[k]? = _
    rw [Array.getElem?_setIfInBounds_ne (Ne.symm hne), Array.getElem?_append_left hk]
  refine ⟨w', ⟨S.stab w w' hS hsz (fun k hk => ho k (S.inb w k hS hk) (fun e => h1 (e ▸ hk))) rfl rfl rfl, hb⟩, F.stab w w' hF hsz (fun k hk => ho k (F.inb w k hF hk) (fun e => h2 (e ▸ hk))) rfl rfl rfl, fun k hk hn => ?_⟩
  rcases hn with hn | rfl
  · exact hd k hk hn
  · exact h2 hk
theorem NE.grow {S S' : HW} {w w' : World} (hF : F.H w) (hd : Disj F S) (hg : Grow S w S' w') (hS' : S'.H w') : NE F S' :=
  let ⟨h1, h2⟩ := hg.keeps hF hd; ⟨w', hS', h1, h2⟩
theorem opW.some {o : Oper} {a : Act} {w : World} {K : Act → World → Prop} (h : opW P o a w K) : ∃ a' w', K a' w' := by
  rcases h with ⟨v, w', _, hk⟩ | ⟨w', _, hk⟩ | ⟨f, args, w', _, hk⟩ | ⟨l, f, t, as, b, w', _, hk⟩
  · exact ⟨_, _, hk⟩
  · exact ⟨_, _, hk⟩
  · obtain ⟨e, w'', fr, ⟨v, _, hv⟩, _⟩ := hk []
    exact ⟨_, _, hv⟩
  · obtain ⟨e, w'', ⟨v, _, hv⟩, _⟩ := hk.2 default [] (room_wide _)
    exact ⟨_, _, hv⟩
theorem PStep.mono {e : Ent} {next next' : HW → Act → Prop} {S : HW} {a : Act} (hn : ∀ S a, NE F S → next S a → next' S a) (hne : NE F S) (h : PStep P ops F e next S a) : PStep P ops F e next' S a := by
  obtain ⟨o, ho, hf, ht⟩ := h
  refine ⟨o, ho, fun hw => hn _ _ hne (hf hw), fun hw => ?_⟩
  rcases ht hw with ⟨hk, v, h1, h2, h3⟩ | ⟨hk, mk, obj, h1, h2⟩ | ⟨hk, h1⟩
  · exact .inl ⟨hk, v, h1, h2, hn _ _ hne h3⟩
  · exact .inr (.inl ⟨hk, mk, obj, h1, fun b hb hb' => hn _ _ (hne.add hb hb') (h2 b hb hb')⟩)
  · refine .inr (.inr ⟨hk, fun w hS hF hd => (h1 w hS hF hd).mono ?_⟩)
    rintro a' w' ⟨v, S', rfl, hS', hg, hp, hx⟩
    exact ⟨v, S', rfl, hS', hg, hp, hn _ _ (NE.grow hF hd hg hS') hx⟩
theorem PStep.run {e : Ent} {next : HW → Act → Prop} {S : HW} {a : Act} {w : World} (h : PStep P ops F e next S a) (hS : S.H w) (hF : F.H w) (hd : Disj F S) :
    opI P ops e.1 (fun a' w' => ∃ S', S'.H w' ∧ F.H w' ∧ Disj F S' ∧ next S' a') a w := by
  obtain ⟨o, ho, hf, ht⟩ := h
  unfold opI
  simp only [ho]
  split
  · rename_i hw
    rcases ht hw with ⟨hk, v, h1, h2, h3⟩ | ⟨hk, mk, obj, h1, h2⟩ | ⟨hk, h1⟩
    · exact .inl ⟨v, w, h1 w hS, S, hS, hF, hd, h3⟩
    · refine .inl ⟨_, _, h1 w, S.add w.heap.size obj, S.alloc_add hS obj, F.alloc hF obj, fun k hk hn => ?_, h2 _ (S.fresh hS) (F.fresh hF)⟩
      rcases hn with hn | rfl
      · exact hd k hk hn
      · exact F.fresh hF hk
    · refine (h1 w hS hF hd).mono ?_
      rintro a' w' ⟨v, S', rfl, hS', hg, hp, hx⟩
      obtain ⟨hF', hd'⟩ := hg.keeps hF hd
      exact ⟨S', hS', hF', hd', hx⟩
  · rename_i hw
    exact ⟨S, hS, hF, hd, hf (by simpa using hw)⟩
theorem Plan.seq {K : Act → World → Prop} : ∀ (l : List Ent) (S : HW) (a : Act) (w : World), Plan P ops F K l S a → S.H w → F.H w → Disj F S → opsW P ops K (l.map (·.1)) a w
  | [], S, a, w, h, hS, hF, hd => h w hS hF hd
  | e :: l, S, a, w, h, hS, hF, hd => (PStep.run h hS hF hd).mono fun a' w' ⟨S', hS', hF', hd', hx⟩ => Plan.seq l S' a' w' hx hS' hF' hd'

/-! ### Two neighbours change places -/
theorem opW_put {o : Oper} {a : Act} {d : Option Tmp} {u : Value} {w : World} {K K' : Act → World → Prop} (hs : ∀ cs b, o.op ≠ .select cs b) (h1 : ∀ x, d = Option.some x → x ∉ o.looksAt ops) (h2 : ∀ x, d = Option.some x → o.dst ≠ Option.some x)
    (hK : ∀ v w', K ((a.put d u).put o.dst v) w' → K' (a.put o.dst v) w') (h : opW P o (a.put d u) w K) : opW P o a w K' := by
  unfold opW at *
  rw [execOp_put (ops := ops) o hs a d u h1] at h
  rcases h with ⟨v, w', hr, hk⟩ | ⟨w', hr, hk⟩ | ⟨f, args, w', hr, hk⟩ | ⟨l, f, t, as, b, w', hr, hk⟩
  · exact .inl ⟨v, w', hr, hK _ _ hk⟩
  · exact .inr (.inl ⟨w', hr, hK _ _ hk⟩)
  · exact .inr (.inr (.inl ⟨f, args, w', hr, hk.mono fun e w'' ⟨v, he, hv⟩ => ⟨v, he, hK _ _ hv⟩⟩))
  · exact .inr (.inr (.inr ⟨l, f, t, as, b, w', hr, hk.mono fun e w'' ⟨v, he, hv⟩ => ⟨v, he, hK _ _ hv⟩⟩))
theorem opW_put' {o : Oper} {a : Act} {d : Option Tmp} {u : Value} {w : World} {K K' : Act → World → Prop} (hs : ∀ cs b, o.op ≠ .select cs b) (h1 : ∀ x, d = Option.some x → x ∉ o.looksAt ops)
    (hK : ∀ v w', K (a.put o.dst v) w' → K' ((a.put d u).put o.dst v) w') (h : opW P o a w K) : opW P o (a.put d u) w K' := by
  unfold opW at *
  rw [execOp_put (ops := ops) o hs a d u h1]
  rcases h with ⟨v, w', hr, hk⟩ | ⟨w', hr, hk⟩ | ⟨f, args, w', hr, hk⟩ | ⟨l, f, t, as, b, w', hr, hk⟩
  · exact .inl ⟨v, w', hr, hK _ _ hk⟩
  · exact .inr (.inl ⟨w', hr, hK _ _ hk⟩)
  · exact .inr (.inr (.inl ⟨f, args, w', hr, hk.mono fun e w'' ⟨v, he, hv⟩ => ⟨v, he, hK _ _ hv⟩⟩))
  · exact .inr (.inr (.inr ⟨l, f, t, as, b, w', hr, hk.mono fun e w'' ⟨v, he, hv⟩ => ⟨v, he, hK _ _ hv⟩⟩))
def Blind (ops : Array Oper) (M : Nat) (d : Option Tmp) : Prop := ∀ i, M.testBit i = true → ∀ oi, ops[i]? = some oi → (∀ cs b, oi.op ≠ .select cs b) ∧ ∀ x, d = Option.some x → x ∉ oi.looksAt ops
theorem PStep.put {t : Ent} {ot : Oper} {M : Nat} {d : Option Tmp} {u : Value} {next : HW → Act → Prop} {S : HW} {a : Act} (ht : ops[t.1]? = some ot) (hs : ∀ cs b, ot.op ≠ .select cs b)
    (h1 : ∀ x, d = Option.some x → x ∉ ot.looksAt ops) (h2 : ∀ x, d = Option.some x → ot.dst ≠ Option.some x) (hM : ∀ i, M.testBit i = true → t.2.2.testBit i = true) (hB : Blind ops M d) (h : PStep P ops F t next S (a.put d u)) :
    PStep P ops F (t.1, t.2.1, M) (fun S' a' => ∃ v, a' = a.put ot.dst v ∧ ((kd ot.op ≠ .eff → ∀ w, S'.H w → S.H w) ∧ (kd ot.op = .eff → ∀ i, t.2.2.testBit i = true → ∀ oi, ops[i]? = some oi → KeptOp P (execOp (a.put d u).eval oi) S S')) ∧ next S' (a'.put d u)) S a := by
  obtain ⟨o, ho, hf, hw⟩ := h
  rw [ht] at ho; cases ho
  rw [wanted_put (ops := ops) ot a d u h1] at hf hw
  refine ⟨ot, ht, fun h => ⟨_, rfl, ⟨fun _ _ h => h, fun _ i _ oi _ => .of fun _ h => h⟩, by rw [← Act.put_comm a u undef h2]; exact hf h⟩, fun h => ?_⟩
  rcases hw h with ⟨hk, v, r1, r2, r3⟩ | ⟨hk, mk, obj, r1, r2⟩ | ⟨hk, r1⟩
  · rw [execOp_put (ops := ops) ot hs a d u h1] at r1 r2
    exact .inl ⟨hk, v, r1, r2, v, rfl, ⟨fun _ _ h => h, fun _ i _ oi _ => .of fun _ h => h⟩, by rw [← Act.put_comm a u v h2]; exact r3⟩
  · rw [execOp_put (ops := ops) ot hs a d u h1] at r1
    exact .inr (.inl ⟨hk, mk, obj, r1, fun b hb hb' => ⟨mk b, rfl, ⟨fun _ _ h => h.1, fun _ i _ oi _ => .of fun _ h => h.1⟩, by rw [← Act.put_comm a u (mk b) h2]; exact r2 b hb hb'⟩⟩)
  · refine .inr (.inr ⟨hk, fun w hS hF hd => opW_put (ops := ops) hs h1 h2 ?_ (r1 w hS hF hd)⟩)
    rintro v w' ⟨v', S', he, hS', hg, hp, hx⟩
    refine ⟨v, S', rfl, hS', hg, fun i hi oi hoi => ?_, v, rfl, ⟨fun hne => absurd hk hne, fun _ => hp⟩, ?_⟩
    · obtain ⟨q1, q2⟩ := hB i hi oi hoi
      rw [← execOp_put (ops := ops) oi q1 a d u q2]
      exact hp i (hM i hi) oi hoi
    · rw [← Act.put_comm a u v h2]; exact hx
theorem alloc_inj {w : World} {o o' : Obj} (h : w.alloc o = w.alloc o') : o = o' := by
  have h1 := heap_alloc_eq w o
  rw [h, heap_alloc_eq] at h1
  exact (Option.some.inj h1).symm
def worldOf (n : Nat) : World := { (default : World) with heap := Array.replicate n default }
theorem mk_inj {r : World → Result Next} {mk mk' : Nat → Value} {obj obj' : Obj} (h : ∀ w, r w = .ok (.value (mk w.heap.size)) (w.alloc obj)) (h' : ∀ w, r w = .ok (.value (mk' w.heap.size)) (w.alloc obj')) : mk = mk' ∧ obj = obj' := by
  have he : ∀ w : World, mk w.heap.size = mk' w.heap.size ∧ w.alloc obj = w.alloc obj' := fun w => by
    have := (h w).symm.trans (h' w)
    simp only [Result.ok.injEq, Next.value.injEq] at this
    exact this
  refine ⟨funext fun n => ?_, alloc_inj (he default).2⟩
  have := (he (worldOf n)).1
  simpa [worldOf] using this
def allowed (x t : Ent) (kx kt : Kd) : Bool :=
  match kt, kx with
  | .alloc, _ => true
  | .pure, .pure | .pure, .load => true
  | .pure, _ => t.2.1
  | .load, .pure | .load, .load => true
  | .load, _ => false
  | .eff, .pure => x.2.1
  | .eff, .load => x.2.1 || t.2.2.testBit x.1
  | .eff, _ => false
theorem Plan.swap {x t : Ent} {ox ot : Oper} {S : HW} {a : Act} {next : HW → Act → Prop} (hx : ops[x.1]? = some ox) (ht : ops[t.1]? = some ot) (hap : ox.apart ops ot = true)
    (hsx : ∀ cs b, ox.op ≠ .select cs b) (hst : ∀ cs b, ot.op ≠ .select cs b) (hal : allowed x t (kd ox.op) (kd ot.op) = true) {M : Nat} (hown : kd ox.op = .load → ∀ d, ox.dst = Option.some d → d ∉ ox.looksAt ops) (hM : ∀ i, M.testBit i = true → t.2.2.testBit i = true) (hB : Blind ops M ox.dst) (hX : Blind ops x.2.2 ot.dst) (hne : NE F S)
    (h : PStep P ops F x (PStep P ops F t next) S a) : PStep P ops F (t.1, t.2.1, M) (PStep P ops F x next) S a := by
  obtain ⟨p1, p2, p3⟩ := Oper.apart_spec hap
  obtain ⟨o, ho, hf, hw⟩ := h
  rw [hx] at ho; cases ho
  have wx : ∀ u, Region.wanted ox (yielded ops (a.put ot.dst u).tmps) = Region.wanted ox (yielded ops a.tmps) := fun u => wanted_put (ops := ops) ox a ot.dst u p3
  have ex : ∀ u, execOp (a.put ot.dst u).eval ox = execOp a.eval ox := fun u => execOp_put (ops := ops) ox hsx a ot.dst u p3
  have wt : ∀ u, Region.wanted ot (yielded ops (a.put ox.dst u).tmps) = Region.wanted ot (yielded ops a.tmps) := fun u => wanted_put (ops := ops) ot a ox.dst u p1
  have et : ∀ u, execOp (a.put ox.dst u).eval ot = execOp a.eval ot := fun u => execOp_put (ops := ops) ot hst a ox.dst u p1
  have cm : ∀ u v, (a.put ox.dst u).put ot.dst v = (a.put ot.dst v).put ox.dst u := fun u v => Act.put_comm a u v p2
  cases hwx : Region.wanted ox (yielded ops a.tmps) with
  | false =>
    refine (PStep.put ht hst p1 p2 hM hB (hf hwx)).mono ?_ hne
    rintro S' a' _ ⟨v, rfl, _, hn⟩
    exact ⟨ox, hx, fun _ => hn, fun h => (by rw [wx, hwx] at h; cases h)⟩
  | true =>
    have nox : ∀ u {p : Prop}, Region.wanted ox (yielded ops (a.put ot.dst u).tmps) = false → p := fun u _ h => by rw [wx, hwx] at h; cases h
    rcases hw hwx with ⟨hk, v, r1, r2, r3⟩ | ⟨hk, mk, obj, r1, r2⟩ | ⟨hk, r1⟩
    · refine (PStep.put ht hst p1 p2 hM hB r3).mono ?_ hne
      rintro S' a' _ ⟨u, rfl, hweak, hn⟩
      refine ⟨ox, hx, nox _, fun _ => .inl ⟨hk, v, fun w hS' => ?_, fun hfr w => (by rw [ex]; exact r2 hfr w), hn⟩⟩
      rw [ex]
      by_cases hfr : x.2.1 = true
      · exact r2 hfr w
      · by_cases hke : kd ot.op = .eff
        · rw [hke] at hal
          rcases hk with hk | hk
          · simp [allowed, hk, hfr] at hal
          · have hbit : t.2.2.testBit x.1 = true := by simpa [allowed, hk, hfr] using hal
            have hkp := hweak.2 hke x.1 hbit ox hx
            rw [execOp_put (ops := ops) ox hsx a ox.dst v (hown hk)] at hkp
            exact hkp.use (hne.imp fun _ h => h.1) r1 hS'
        · exact r1 w (hweak.1 hke w hS')
    · -- a block
      obtain ⟨w0, hS0, hF0, _⟩ := hne
      have fr1 : ¬ S.own w0.heap.size := S.fresh hS0
      have fr2 : ¬ F.own w0.heap.size := F.fresh hF0
      have hst' : ∀ b, ¬ S.own b → ¬ F.own b → PStep P ops F t next (S.add b obj) (a.put ox.dst (mk b)) := r2
      refine ⟨ot, ht, fun hwt => ⟨ox, hx, nox _, fun _ => .inr (.inl ⟨hk, mk, obj, fun w => (by rw [ex]; exact r1 w), fun b hb hb' => ?_⟩)⟩, fun hwt => ?_⟩
      · obtain ⟨o', ho', h1, _⟩ := hst' b hb hb'
        rw [ht] at ho'; cases ho'
        rw [← cm]; exact h1 (by rw [wt]; exact hwt)
      · have get : ∀ b, ¬ S.own b → ¬ F.own b → _ := fun b hb hb' => (by
          obtain ⟨o', ho', _, h2⟩ := hst' b hb hb'
          rw [ht] at ho'; cases ho'
          have := h2 (by rw [wt]; exact hwt)
          rw [et] at this
          exact this.imp_right fun h => h.imp_right (·.1) : ((kd ot.op = .pure ∨ kd ot.op = .load) ∧ ∃ v, (∀ w, (S.add b obj).H w → (execOp a.eval ot).run P w = .ok (.value v) w) ∧ (t.2.1 = true → ∀ w, (execOp a.eval ot).run P w = .ok (.value v) w) ∧ next (S.add b obj) ((a.put ox.dst (mk b)).put ot.dst v)) ∨
              (kd ot.op = .alloc ∧ ∃ (mk' : Nat → Value) (obj' : Obj), (∀ w, (execOp a.eval ot).run P w = .ok (.value (mk' w.heap.size)) (w.alloc obj')) ∧ ∀ b', ¬ (S.add b obj).own b' → ¬ F.own b' → next ((S.add b obj).add b' obj') ((a.put ox.dst (mk b)).put ot.dst (mk' b'))) ∨ kd ot.op = .eff)
        rcases get _ fr1 fr2 with ⟨hkt, v, _, q2, _⟩ | ⟨hkt, mk', obj', q1, _⟩ | hkt
        · have hfree : t.2.1 = true := by
            rcases hkt with hkt | hkt <;> simp [allowed, hk, hkt] at hal
            exact hal
          have q2 := q2 hfree
          refine .inl ⟨hkt, v, fun w _ => q2 w, fun _ => q2, ox, hx, nox _, fun _ => .inr (.inl ⟨hk, mk, obj, fun w => (by rw [ex]; exact r1 w), fun b hb hb' => ?_⟩)⟩
          rcases get b hb hb' with ⟨_, v', _, s2, s3⟩ | ⟨hkt', _⟩ | hkt'
          · have : v' = v := by
              have := (s2 hfree default).symm.trans (q2 default)
              simpa using this
            subst this
            rw [← cm]; exact s3
          · rcases hkt with hkt | hkt <;> rw [hkt] at hkt' <;> cases hkt'
          · rcases hkt with hkt | hkt <;> rw [hkt] at hkt' <;> cases hkt'
        · refine .inr (.inl ⟨hkt, mk', obj', q1, fun b' hb1 hb2 => ⟨ox, hx, nox _, fun _ => .inr (.inl ⟨hk, mk, obj, fun w => (by rw [ex]; exact r1 w), fun b hb hb' => ?_⟩)⟩⟩)
          have hb0 : ¬ S.own b := fun h => hb (.inl h)
          have hbb : b ≠ b' := fun h => hb (.inr h)
          rcases get b hb0 hb' with ⟨hkt', _⟩ | ⟨_, mk2, obj2, s1, s2⟩ | hkt'
          · rcases hkt' with hkt' | hkt' <;> rw [hkt'] at hkt <;> cases hkt
          · obtain ⟨rfl, rfl⟩ := mk_inj s1 q1
            have := s2 b' (fun h => h.elim hb1 fun e => hbb e.symm) hb2
            rw [HW.add_comm, cm] at this
            exact this
          · rw [hkt] at hkt'; cases hkt'
        · rw [hk, hkt] at hal; simp [allowed] at hal
    · -- more
      have keep : ∀ {S' : HW} (u : Value), (∀ i, x.2.2.testBit i = true → ∀ oi, ops[i]? = some oi → KeptOp P (execOp a.eval oi) S S') → ∀ i, x.2.2.testBit i = true → ∀ oi, ops[i]? = some oi → KeptOp P (execOp (a.put ot.dst u).eval oi) S S' := fun u hp i hi oi hoi => by
        obtain ⟨q1, q2⟩ := hX i hi oi hoi
        rw [execOp_put (ops := ops) oi q1 a ot.dst u q2]
        exact hp i hi oi hoi
      have hnx : ∀ {w}, S.H w → F.H w → Disj F S → ∃ v S' w', S'.H w' ∧ Grow S w S' w' ∧ PStep P ops F t next S' (a.put ox.dst v) := fun hS hF hd => by
        obtain ⟨a', w', v, S', rfl, hS', hg, _, hx⟩ := (r1 _ hS hF hd).some
        exact ⟨v, S', w', hS', hg, hx⟩
      have get : ∀ {S' v}, Region.wanted ot (yielded ops a.tmps) = true → PStep P ops F t next S' (a.put ox.dst v) → _ := fun {S' v} hwt hp => (by
          obtain ⟨o', ho', _, h2⟩ := hp
          rw [ht] at ho'; cases ho'
          have := h2 (by rw [wt]; exact hwt)
          rw [et] at this
          exact this.imp_right fun h => h.imp_right (·.1) : ((kd ot.op = .pure ∨ kd ot.op = .load) ∧ ∃ u, (∀ w, S'.H w → (execOp a.eval ot).run P w = .ok (.value u) w) ∧ (t.2.1 = true → ∀ w, (execOp a.eval ot).run P w = .ok (.value u) w) ∧ next S' ((a.put ox.dst v).put ot.dst u)) ∨
              (kd ot.op = .alloc ∧ ∃ (mk' : Nat → Value) (obj' : Obj), (∀ w, (execOp a.eval ot).run P w = .ok (.value (mk' w.heap.size)) (w.alloc obj')) ∧ ∀ b', ¬ S'.own b' → ¬ F.own b' → next (S'.add b' obj') ((a.put ox.dst v).put ot.dst (mk' b'))) ∨ kd ot.op = .eff)
      refine ⟨ot, ht, fun hwt => ⟨ox, hx, nox _, fun _ => .inr (.inr ⟨hk, fun w hS hF hd => opW_put' (ops := ops) hsx p3 ?_ (r1 w hS hF hd)⟩)⟩, fun hwt => ?_⟩
      · rintro v w' ⟨v', S', he, hS', hg, hp, hn⟩
        refine ⟨v, S', rfl, hS', hg, keep _ hp, ?_⟩
        obtain ⟨o', ho', h1, _⟩ := hn
        rw [ht] at ho'; cases ho'
        have := h1 (by rw [he, wt]; exact hwt)
        rw [cm] at this
        exact this
      · obtain ⟨w0, hS0, hF0, hd0⟩ := hne
        obtain ⟨v0, S0, w0', hS0', hg0, hn0⟩ := hnx hS0 hF0 hd0
        rcases get hwt hn0 with ⟨hkt, u, _, q2, _⟩ | ⟨hkt, mk', obj', q1, _⟩ | hkt
        · have hfree : t.2.1 = true := by
            rcases hkt with hkt | hkt <;> simp [allowed, hk, hkt] at hal
            exact hal
          have q2 := q2 hfree
          refine .inl ⟨hkt, u, fun w _ => q2 w, fun _ => q2, ox, hx, nox _, fun _ => .inr (.inr ⟨hk, fun w hS hF hd => opW_put' (ops := ops) hsx p3 ?_ (r1 w hS hF hd)⟩)⟩
          rintro v w' ⟨v', S', he, hS', hg, hp, hn⟩
          refine ⟨v, S', rfl, hS', hg, keep _ hp, ?_⟩
          rw [he] at hn
          rcases get hwt hn with ⟨_, u', _, s2, s3⟩ | ⟨hkt', _⟩ | hkt'
          · have : u' = u := by
              have := (s2 hfree default).symm.trans (q2 default)
              simpa using this
            subst this
            rw [← he] at s3
            rw [← cm]; exact s3
          · rcases hkt with hkt | hkt <;> rw [hkt] at hkt' <;> cases hkt'
          · rcases hkt with hkt | hkt <;> rw [hkt] at hkt' <;> cases hkt'
        · refine .inr (.inl ⟨hkt, mk', obj', q1, fun b' hb1 hb2 => ⟨ox, hx, nox _, fun _ => .inr (.inr ⟨hk, fun w hS hF hd => opW_put' (ops := ops) hsx p3 ?_ (r1 w hS.1 hF (fun b h1 h2 => hd b h1 (.inl h2)))⟩)⟩⟩)
          rintro v w' ⟨v', S', he, hS', hg, hp, hn⟩
          have hlt : b' < w.heap.size := (Array.getElem?_eq_some_iff.1 hS.2).1
          obtain ⟨g1, g2⟩ := hg.same b' hlt hb1
          refine ⟨v, S'.add b' obj', rfl, ⟨hS', g2.trans hS.2⟩, ⟨hg.size, fun k hk' hn' => ?_, hg.tape, hg.os, hg.output⟩, fun i hi oi hoi => (keep _ hp i hi oi hoi).add hb1, ?_⟩
          · obtain ⟨e1, e2⟩ := hg.same k hk' (fun h => hn' (.inl h))
            exact ⟨fun h => h.elim e1 fun e => hn' (.inr e), e2⟩
          · rw [he] at hn
            rcases get hwt hn with ⟨hkt', _⟩ | ⟨_, mk2, obj2, s1, s2⟩ | hkt'
            · rcases hkt' with hkt' | hkt' <;> rw [hkt'] at hkt <;> cases hkt
            · obtain ⟨rfl, rfl⟩ := mk_inj s1 q1
              have := s2 b' g1 hb2
              rw [← he, cm] at this
              exact this
            · rw [hkt] at hkt'; cases hkt'
        · rw [hk, hkt] at hal; simp [allowed] at hal

/-! ### What the edges allow -/
def befMask (befs : List Nat) (o : Oper) : Nat := o.after.foldl (fun s e => if Region.binds .any e then s ||| (2 ^ e.on ||| befs.getD e.on 0) else s) 0
def befOf (ops : Array Oper) : List Nat := ops.toList.foldl (fun acc o => acc ++ [befMask acc o]) []
def okBef (ops : Array Oper) (befs : List Nat) : Bool := (List.range ops.size).all fun i => match ops[i]? with | some o => befs.getD i 0 == befMask befs o | none => true
theorem befMask_bit (befs : List Nat) (o : Oper) (m : Nat) : (befMask befs o).testBit m = true → ∃ e ∈ o.after, Region.binds .any e = true ∧ (e.on = m ∨ (befs.getD e.on 0).testBit m = true) := by
  unfold befMask
  rw [← Array.foldl_toList]
  have : ∀ (l : List Edge) (s : Nat), (l.foldl (fun s e => if Region.binds .any e then s ||| (2 ^ e.on ||| befs.getD e.on 0) else s) s).testBit m = true → s.testBit m = true ∨ ∃ e ∈ l, Region.binds .any e = true ∧ (e.on = m ∨ (befs.getD e.on 0).testBit m = true) := by
    intro l
    induction l with
    | nil => intro s h; exact .inl h
    | cons e l ih =>
      intro s h
      simp only [List.foldl_cons] at h
      rcases ih _ h with h | ⟨e', he', hb⟩
      · by_cases hb : Region.binds .any e = true
        · simp only [hb, if_true, Nat.testBit_or, Nat.testBit_two_pow, Bool.or_eq_true, decide_eq_true_eq] at h
          rcases h with h | h
          · exact .inl h
          · exact .inr ⟨e, by simp, hb, h⟩
        · simp only [hb, if_false, Bool.false_eq_true] at h
          exact .inl h
      · exact .inr ⟨e', by simp [he'], hb⟩
  intro h
  rcases this _ 0 h with h | ⟨e, he, hb⟩
  · simp at h
  · exact ⟨e, by simpa using he, hb⟩
def Closed (befs : List Nat) (listed : Array Bool) : Prop := ∀ i m, listed.getD i false = true → (befs.getD i 0).testBit m = true → listed.getD m false = true
theorem Closed.ready {befs : List Nat} {listed : Array Bool} (hb : okBef ops befs = true) (hc : Closed befs listed) {i : Nat} (hi : i ∈ Region.ready .any ops listed) {m : Nat} (hm : (befs.getD i 0).testBit m = true) : listed.getD m false = true := by
  obtain ⟨_, o, ho, hall⟩ := mem_ready.1 hi
  have h1 := List.all_eq_true.1 hb i (by simpa using (Array.getElem?_eq_some_iff.1 ho).1)
  rw [ho] at h1
  rw [beq_iff_eq.1 h1] at hm
  obtain ⟨e, he, hbd, hm⟩ := befMask_bit befs o m hm
  have h2 := hall e he hbd
  rcases hm with rfl | hm
  · exact h2
  · exact hc e.on m h2 hm
theorem Closed.set {befs : List Nat} {listed : Array Bool} (hb : okBef ops befs = true) (hc : Closed befs listed) {i : Nat} (hi : i ∈ Region.ready .any ops listed) : Closed befs (listed.setIfInBounds i true) := by
  intro j m hj hm
  by_cases hji : i = j
  · subst hji; exact getD_set_true (hc.ready hb hi hm)
  · rw [getD_set_ne false hji] at hj; exact getD_set_true (hc j m hj hm)
theorem unlisted_not {listed : Array Bool} {m : Nat} (h : listed.getD m true = false) : ¬ listed.getD m false = true := by
  rcases Nat.lt_or_ge m listed.size with h' | h'
  · simp [h'] at h ⊢; exact h
  · simp [Array.getElem?_eq_none h'] at h
def kdAt (ops : Array Oper) (i : Nat) : Kd := match ops[i]? with | some o => kd o.op | none => .eff
def seesNot (ops : Array Oper) (o : Oper) (d : Option Tmp) : Bool := d.all fun x => !(o.looksAt ops).contains x
def okSee (ops : Array Oper) (x t : Ent) : Bool :=
  match ops[x.1]?, ops[t.1]? with
  | some ox, some ot => (kd ox.op != .load || (seesNot ops ox ox.dst && seesNot ops ox ot.dst)) && (x.2.2 == 0 || (List.range ops.size).all fun i => !x.2.2.testBit i || match ops[i]? with | some oi => seesNot ops oi ot.dst | none => true)
  | _, _ => false
theorem seesNot_spec {o : Oper} {d : Option Tmp} (h : seesNot ops o d = true) : ∀ x, d = Option.some x → x ∉ o.looksAt ops := by
  rintro x rfl hx
  simp only [seesNot, Option.all_some, Bool.not_eq_true'] at h
  rw [List.contains_eq_mem] at h
  simp [hx] at h
theorem okSee_spec {x t : Ent} {ox ot : Oper} (hsel : ∀ (j : Nat) o, ops[j]? = some o → ∀ cs b, o.op ≠ .select cs b) (hx : ops[x.1]? = some ox) (ht : ops[t.1]? = some ot) (h : okSee ops x t = true) :
    (kd ox.op = .load → (∀ d, ox.dst = Option.some d → d ∉ ox.looksAt ops) ∧ ∀ d, ot.dst = Option.some d → d ∉ ox.looksAt ops) ∧ Blind ops x.2.2 ot.dst := by
  unfold okSee at h
  rw [hx, ht] at h
  simp only [Bool.and_eq_true, Bool.or_eq_true, bne_iff_ne, ne_eq, beq_iff_eq, List.all_eq_true, List.mem_range, Bool.not_eq_true'] at h
  refine ⟨fun hk => ?_, fun i hi oi hoi => ⟨hsel i oi hoi, ?_⟩⟩
  · rcases h.1 with h1 | h1
    · exact absurd hk h1
    · exact ⟨seesNot_spec h1.1, seesNot_spec h1.2⟩
  · rcases h.2 with h1 | h1
    · rw [h1] at hi; simp at hi
    · have := h1 i (Array.getElem?_eq_some_iff.1 hoi).1
      rw [hi, hoi] at this
      exact seesNot_spec (this.resolve_left (by simp))
def okPair (ops : Array Oper) (befs : List Nat) (x t : Ent) : Bool := x.1 != t.1 && !(befs.getD x.1 0).testBit t.1 && ((befs.getD t.1 0).testBit x.1 ||
  match ops[x.1]?, ops[t.1]? with
  | some ox, some ot => ox.apart ops ot && allowed x t (kd ox.op) (kd ot.op)
  | _, _ => false) && okSee ops x t
def okPairs (ops : Array Oper) (befs : List Nat) : List Ent → Bool
  | [] => true
  | x :: l => l.all (okPair ops befs x) && okPairs ops befs l
def okOrder (ops : Array Oper) (befs : List Nat) (l : List Ent) : Bool :=
  (ops.all fun o => match o.op with | .select .. | .defer .. => false | _ => true) && okBef ops befs &&
  (ops.all fun o => o.after.all fun e => !Region.binds .any e || decide (e.on < ops.size)) &&
  ((List.range ops.size).all fun i => !(befs.getD i 0).testBit i) &&
  ((List.range ops.size).all fun i => (l.map (·.1)).contains i) && (l.all fun e => decide (e.1 < ops.size)) && decide (l.length ≤ ops.size) && okPairs ops befs l
theorem okPairs_spec {befs : List Nat} : ∀ {l : List Ent}, okPairs ops befs l = true → l.Pairwise fun x t => okPair ops befs x t = true
  | [], _ => .nil
  | x :: l, h => by
    simp only [okPairs, Bool.and_eq_true, List.all_eq_true] at h
    exact .cons h.1 (okPairs_spec h.2)
theorem befMask_has (befs : List Nat) (o : Oper) {e : Edge} (he : e ∈ o.after) (hb : Region.binds .any e = true) : (befMask befs o).testBit e.on = true := by
  unfold befMask
  rw [← Array.foldl_toList]
  have : ∀ (l : List Edge) (s : Nat), (e ∈ l ∨ s.testBit e.on = true) → (l.foldl (fun s e => if Region.binds .any e then s ||| (2 ^ e.on ||| befs.getD e.on 0) else s) s).testBit e.on = true := by
    intro l
    induction l with
    | nil => intro s h; simpa using h
    | cons x l ih =>
      intro s h
      simp only [List.foldl_cons]
      refine ih _ ?_
      rcases h with h | h
      · rcases List.mem_cons.1 h with rfl | h
        · right; simp [hb, Nat.testBit_or, Nat.testBit_two_pow]
        · exact .inl h
      · right
        split
        · simp [Nat.testBit_or, h]
        · exact h
  exact this _ _ (.inl (by simpa using he))
theorem Plan.move {K : Act → World → Prop} (hsel : ∀ (j : Nat) o, ops[j]? = some o → ∀ cs b, o.op ≠ .select cs b) {t : Ent} {ot : Oper} (ht : ops[t.1]? = some ot) (l : List Ent) : ∀ (l1 : List Ent) (M : Nat) (S : HW) (a : Act),
    (∀ i, M.testBit i = true → t.2.2.testBit i = true) → (∀ x ∈ l1, ∀ ox, ops[x.1]? = some ox → Blind ops M ox.dst) →
    (l1.Pairwise fun x y => okSee ops x y = true) → (∀ x ∈ l1, ∃ ox, ops[x.1]? = some ox ∧ ox.apart ops ot = true ∧ allowed x t (kd ox.op) (kd ot.op) = true ∧ okSee ops x t = true) →
    NE F S → Plan P ops F K (l1 ++ t :: l) S a → Plan P ops F K ((t.1, t.2.1, M) :: (l1 ++ l)) S a
  | [], M, S, a, hM, _, _, _, hne, h => by
    obtain ⟨o, ho, hf, hw⟩ := (h : PStep P ops F t (Plan P ops F K l) S a)
    refine ⟨o, ho, hf, fun q => ?_⟩
    rcases hw q with h | h | ⟨hk, h⟩
    · exact .inl h
    · exact .inr (.inl h)
    · refine .inr (.inr ⟨hk, fun w hS hF hd => (h w hS hF hd).mono ?_⟩)
      rintro a' w' ⟨v, S', r1, r2, r3, r4, r5⟩
      exact ⟨v, S', r1, r2, r3, fun i hi => r4 i (hM i hi), r5⟩
  | x :: l1, M, S, a, hM, hB, hpw, hl, hne, h => by
    obtain ⟨ox, hx, hap, hal, hsee⟩ := hl x (by simp)
    have hpc := List.pairwise_cons.1 hpw
    obtain ⟨hs1, hs2⟩ := okSee_spec hsel hx ht hsee
    -- what is kept until x is passed
    let M' := if kd ox.op = .load ∧ t.2.2.testBit x.1 = true then M ||| 2 ^ x.1 else M
    have hM' : ∀ i, M'.testBit i = true → t.2.2.testBit i = true := fun i hi => by
      simp only [M'] at hi
      split at hi
      · rename_i hc
        rw [Nat.testBit_or, Nat.testBit_two_pow, Bool.or_eq_true, decide_eq_true_eq] at hi
        rcases hi with hi | rfl
        · exact hM i hi
        · exact hc.2
      · exact hM i hi
    have hMM : ∀ i, M.testBit i = true → M'.testBit i = true := fun i hi => by
      simp only [M']
      split
      · rw [Nat.testBit_or, hi]; rfl
      · exact hi
    have hB' : ∀ y ∈ l1, ∀ oy, ops[y.1]? = some oy → Blind ops M' oy.dst := fun y hy oy hoy i hi oi hoi => by
      simp only [M'] at hi
      split at hi
      · rename_i hc
        rw [Nat.testBit_or, Nat.testBit_two_pow, Bool.or_eq_true, decide_eq_true_eq] at hi
        rcases hi with hi | rfl
        · exact hB y (by simp [hy]) oy hoy i hi oi hoi
        · rw [hx] at hoi; cases hoi
          exact ⟨hsel _ _ hx, ((okSee_spec hsel hx hoy (hpc.1 y hy)).1 hc.1).2⟩
      · exact hB y (by simp [hy]) oy hoy i hi oi hoi
    have hal' : allowed x (t.1, t.2.1, M') (kd ox.op) (kd ot.op) = true := by
      cases hkt : kd ot.op <;> cases hkx : kd ox.op <;> rw [hkt, hkx] at hal <;> first | exact hal | skip
      simp only [allowed, Bool.or_eq_true] at hal ⊢
      rcases hal with hal | hal
      · exact .inl hal
      · right
        simp only [M']
        rw [if_pos ⟨hkx, hal⟩, Nat.testBit_or, Nat.testBit_two_pow]; simp
    have := PStep.mono (fun S a hne h => Plan.move hsel ht l l1 M' S a hM' hB' hpc.2 (fun x hx => hl x (by simp [hx])) hne h) hne h
    exact Plan.swap (t := (t.1, t.2.1, M')) hx ht hap (hsel _ _ hx) (hsel _ _ ht) hal' (fun hk => (hs1 hk).1) hMM (hB x (by simp) ox hx) hs2 hne this
theorem Plan.any {K : Act → World → Prop} {befs : List Nat} (hsel : ∀ (j : Nat) o, ops[j]? = some o → ∀ cs b, o.op ≠ .select cs b) (hbef : okBef ops befs = true)
    (hdep : ∀ (j : Nat) o, ops[j]? = some o → ∀ e ∈ o.after, Region.binds .any e = true → e.on < ops.size) (hself : ∀ i, i < ops.size → (befs.getD i 0).testBit i = false) :
    ∀ (fuel t : Nat) (l : List Ent) (listed : Array Bool) (S : HW) (a : Act) (w : World), Closed befs listed → listed.size = ops.size → l.length ≤ fuel → (l.Pairwise fun x t => okPair ops befs x t = true) →
      (∀ e ∈ l, e.1 < ops.size ∧ listed.getD e.1 false = false) → (∀ i, i < ops.size → listed.getD i false = false → ∃ e ∈ l, e.1 = i) →
      Plan P ops F K l S a → S.H w → F.H w → Disj F S → opsW P ops K (Region.linearise.go .any ops fuel t listed []) a w := by
  intro fuel
  induction fuel with
  | zero =>
    intro t l listed S a w hcl hsz hlen hpw hun hall hp hS hF hd
    have : l = [] := List.eq_nil_of_length_eq_zero (by omega)
    subst this
    simpa [Region.linearise.go, opsW] using hp w hS hF hd
  | succ fuel ih =>
    intro t l listed S a w hcl hsz hlen hpw hun hall hp hS hF hd
    simp only [Region.linearise.go]
    change opsW P ops K (match (Region.ready .any ops listed)[t % (Region.ready .any ops listed).length]? with
      | some i => Region.linearise.go .any ops fuel (t / (Region.ready .any ops listed).length) (listed.setIfInBounds i true) [i]
      | none => [].reverse) a w
    cases hi : (Region.ready .any ops listed)[t % (Region.ready .any ops listed).length]? with
    | none =>
      have hnil : Region.ready .any ops listed = [] := by
        cases hr : Region.ready .any ops listed with
        | nil => rfl
        | cons x xs =>
          rw [hr] at hi
          have hlt : t % (x :: xs).length < (x :: xs).length := Nat.mod_lt _ (by simp)
          simp at hi
          simp at hlt
          omega
      cases l with
      | nil => simpa [opsW] using hp w hS hF hd
      | cons x l =>
        exfalso
        obtain ⟨hxs, hxu⟩ := hun x (by simp)
        have hx := Array.getElem?_eq_getElem hxs
        have : x.1 ∈ Region.ready .any ops listed := by
          rw [mem_ready]
          refine ⟨?_, ops[x.1], hx, fun e he hb => ?_⟩
          · simp only [Array.getD_eq_getD_getElem?] at hxu ⊢
            rw [Array.getElem?_eq_getElem (by rw [hsz]; exact hxs)] at hxu ⊢
            exact hxu
          · by_cases hl : listed.getD e.on false = true
            · exact hl
            · exfalso
              have hlt := hdep x.1 _ hx e he hb
              obtain ⟨y, hy, hye⟩ := hall e.on hlt (by simpa using hl)
              have hbit : (befs.getD x.1 0).testBit y.1 = true := by
                have h1 := List.all_eq_true.1 hbef x.1 (by simpa using hxs)
                rw [hx] at h1
                rw [beq_iff_eq.1 h1, hye]
                exact befMask_has befs _ he hb
              rcases List.mem_cons.1 hy with rfl | hy
              · rw [hself _ hxs] at hbit; cases hbit
              · have := List.rel_of_pairwise_cons hpw hy
                simp only [okPair, hbit, Bool.not_true, Bool.and_false, Bool.false_and] at this
                cases this
        rw [hnil] at this; cases this
    | some i =>
      simp only []
      rw [linearise_go_acc, List.reverse_singleton, List.singleton_append]
      have hr := List.mem_of_getElem? hi
      obtain ⟨hiun, oi, hoi, _⟩ := mem_ready.1 hr
      have hisz : i < ops.size := (Array.getElem?_eq_some_iff.1 hoi).1
      obtain ⟨e, he, hei⟩ := hall i hisz (by
        rw [← Bool.not_eq_true]; exact unlisted_not hiun)
      obtain ⟨l1, l2, rfl⟩ := List.append_of_mem he
      have hpw' := List.pairwise_append.1 hpw
      have hmv : Plan P ops F K ((e.1, e.2.1, 0) :: (l1 ++ l2)) S a := by
        refine Plan.move hsel (hei ▸ hoi) l2 l1 0 S a (fun i hi => by simp at hi) (fun x _ ox _ i hi => by simp at hi) (hpw'.1.imp fun h => by simp only [okPair, Bool.and_eq_true] at h; exact h.2) (fun x hx => ?_) ⟨w, hS, hF, hd⟩ hp
        have h1 := hpw'.2.2 x hx e (by simp)
        have hxs := (hun x (by simp [hx])).1
        simp only [okPair, Bool.and_eq_true, Bool.or_eq_true] at h1
        rcases h1.1.2 with h2 | h2
        · exfalso
          have := hcl.ready hbef hr (m := x.1) (hei ▸ h2)
          rw [(hun x (by simp [hx])).2] at this; cases this
        · rw [Array.getElem?_eq_getElem hxs, hei, hoi] at h2
          simp only [Bool.and_eq_true] at h2
          exact ⟨ops[x.1], Array.getElem?_eq_getElem hxs, h2.1, h2.2, h1.2⟩
      have hpwl : (l1 ++ l2).Pairwise fun x t => okPair ops befs x t = true := List.pairwise_append.2 ⟨hpw'.1, (List.pairwise_cons.1 hpw'.2.1).2, fun x hx y hy => hpw'.2.2 x hx y (by simp [hy])⟩
      have hself' : ∀ x ∈ l1 ++ l2, x.1 ≠ i := by
        intro x hx hxe
        have hbit : okPair ops befs x e = true ∨ okPair ops befs e x = true := by
          rcases List.mem_append.1 hx with hx | hx
          · exact .inl (hpw'.2.2 x hx e (by simp))
          · exact .inr ((List.pairwise_cons.1 hpw'.2.1).1 x hx)
        simp [okPair, hxe, hei] at hbit
      have := PStep.run hmv hS hF hd
      rw [hei] at this
      refine this.mono fun a' w' ⟨S', hS', hF', hd', hx⟩ => ?_
      refine ih _ (l1 ++ l2) _ S' a' w' (hcl.set hbef hr) (by simpa using hsz) (by simp at hlen ⊢; omega) hpwl (fun x hx => ?_) (fun j hj hjl => ?_) hx hS' hF' hd'
      · have hm : x ∈ l1 ++ e :: l2 := by simp at hx ⊢; rcases hx with hx | hx <;> simp [hx]
        obtain ⟨h1, h2⟩ := hun x hm
        exact ⟨h1, by rw [getD_set_ne false (Ne.symm (hself' x hx))]; exact h2⟩
      · by_cases hji : i = j
        · subst hji
          simp only [Array.getD_eq_getD_getElem?] at hjl
          rw [Array.getElem?_setIfInBounds_self, if_pos (by rw [hsz]; exact hj)] at hjl
          cases hjl
        · rw [getD_set_ne false hji] at hjl
          obtain ⟨y, hy, hye⟩ := hall j hj hjl
          refine ⟨y, ?_, hye⟩
          have : y ≠ e := fun h => hji (by rw [← hei, ← h, hye])
          simp at hy ⊢
          rcases hy with hy | hy | hy
          · exact .inl hy
          · exact absurd hy this
          · exact .inr hy
end
end
end Go.Sy
