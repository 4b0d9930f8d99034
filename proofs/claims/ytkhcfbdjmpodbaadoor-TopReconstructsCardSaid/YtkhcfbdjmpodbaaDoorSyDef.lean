/- An executor for a function's code over symbolic states: it walks the code with closed data alone and answers a tree of what is left to be shown. This text has the definitions; SySound has the proof that the tree serves. -/
import Derived.CallsIn
import Derived.Laws.Entries
import Derived.Laws.MakeOwn
import Derived.Test.YtkhcfbdjmpodbaaDoorSyPlan
set_option linter.unusedSimpArgs false
set_option linter.unusedVariables false
namespace Go.Sy
open Go

inductive U where
  | i (n : Int)
  | b (b : Bool)
  | v (v : Value)
  | p (a : Option Addr)
  deriving Inhabited
abbrev Env := List U
def Env.int (ρ : Env) (i : Nat) : Int := match ρ[i]? with | some (.i n) => n | _ => 0
def Env.bool (ρ : Env) (i : Nat) : Bool := match ρ[i]? with | some (.b n) => n | _ => false
def Env.val (ρ : Env) (i : Nat) : Value := match ρ[i]? with | some (.v n) => n | _ => .nilFunc
def Env.ptr (ρ : Env) (i : Nat) : Option Addr := match ρ[i]? with | some (.p n) => n | _ => none

inductive IT where
  | lit (n : Int)
  | var (i : Nat)
  | bin (op : BinOp) (k : IntKind) (x y : IT)
  | conv (k : IntKind) (x : IT)
  | mn (x y : IT)
  | mx (x y : IT)
  | off (x : IT) (size : Nat) (base : IT)
  | dif (x y : IT)
  | ifeq (a b x y : IT)
  deriving DecidableEq, Repr, Inhabited
def ar (op : BinOp) (k : IntKind) (x y : Int) : Int :=
  match op with
  | .add => k.wrap (x + y)
  | .sub => k.wrap (x - y)
  | .mul => k.wrap (x * y)
  | .quo => k.wrap (x.tdiv y)
  | .rem => x.tmod y
  | .shl => k.wrap (x * 2 ^ (min y.toNat k.bits))
  | .shr => x.fdiv (2 ^ (min y.toNat k.bits))
  | op => bits op k x y
def cm (op : BinOp) (x y : Int) : Bool :=
  match op with
  | .eql => x == y
  | .neq => x != y
  | .lss => decide (x < y)
  | .leq => decide (x ≤ y)
  | .gtr => decide (x > y)
  | _ => decide (x ≥ y)
def IT.eval (ρ : Env) : IT → Int
  | .lit n => n
  | .var i => ρ.int i
  | .bin op k x y => ar op k (x.eval ρ) (y.eval ρ)
  | .conv k x => k.wrap (x.eval ρ)
  | .mn x y => if y.eval ρ < x.eval ρ then y.eval ρ else x.eval ρ
  | .mx x y => if y.eval ρ > x.eval ρ then y.eval ρ else x.eval ρ
  | .off x s b => b.eval ρ + x.eval ρ * s
  | .dif x y => x.eval ρ - y.eval ρ
  | .ifeq a b x y => if a.eval ρ = b.eval ρ then x.eval ρ else y.eval ρ
inductive BT where
  | lit (b : Bool)
  | var (i : Nat)
  | cmp (op : BinOp) (x y : IT)
  | not (x : BT)
  | pick (c x y : BT)
  | beq (x y : BT)
  | some (i : Nat)
  deriving DecidableEq, Repr, Inhabited
def BT.eval (ρ : Env) : BT → Bool
  | .lit b => b
  | .var i => ρ.bool i
  | .cmp op x y => cm op (x.eval ρ) (y.eval ρ)
  | .not x => !x.eval ρ
  | .pick c x y => bif c.eval ρ then x.eval ρ else y.eval ρ
  | .beq x y => x.eval ρ == y.eval ρ
  | .some i => (ρ.ptr i).isSome
def BT.mkNot : BT → BT
  | .lit b => .lit !b
  | .not x => x
  | x => .not x
def BT.mkPick (c x y : BT) : BT :=
  match c with
  | .lit true => x
  | .lit false => y
  | c => if x = y then x else .pick c x y
def BT.mkAnd (x y : BT) : BT := match y with | .lit true => x | y => BT.mkPick x y (.lit false)
def BT.mkCmp (op : BinOp) (x y : IT) : BT :=
  match x, y with
  | .lit a, .lit b => .lit (cm op a b)
  | x, y => .cmp op x y
def BT.mkBeq (x y : BT) : BT :=
  match x, y with
  | .lit a, .lit b => .lit (a == b)
  | x, y => .beq x y
def BT.subst (c : BT) (b : Bool) (t : BT) : BT :=
  if t = c then .lit b else
  match t with
  | .not x => .mkNot (BT.subst c b x)
  | .pick d x y => .mkPick (BT.subst c b d) (BT.subst c b x) (BT.subst c b y)
  | .beq x y => .mkBeq (BT.subst c b x) (BT.subst c b y)
  | t => t
def BT.gives (g d : BT) : Bool :=
  g == d || match g with
  | .pick c x (.lit false) => c.gives d || x.gives d
  | _ => false
def IT.mkBin (op : BinOp) (k : IntKind) (x y : IT) : IT :=
  match x, y with
  | .lit a, .lit b => .lit (ar op k a b)
  | x, y => .bin op k x y
def IT.mkConv (k : IntKind) (x : IT) : IT :=
  match x with
  | .lit a => .lit (k.wrap a)
  | x => .conv k x
def IT.mkDif (x y : IT) : IT :=
  match x, y with
  | .lit a, .lit b => .lit (a - b)
  | x, .lit 0 => x
  | x, y => .dif x y
def IT.mkIfeq (a b x y : IT) : IT :=
  match a, b with
  | .lit m, .lit n => if m = n then x else y
  | a, b => .ifeq a b x y
def IT.mkOff (x : IT) (s : Nat) (b : IT) : IT :=
  match x, b with
  | .lit a, .lit c => .lit (c + a * s)
  | .lit 0, b => b
  | x, b => .off x s b

inductive SV where
  | undef
  | junk
  | int (k : IntKind) (t : IT)
  | bool (t : BT)
  | val (i : Nat)
  | loc (b : Nat) (off : Nat)
  | slc (b : Nat) (off len cap : Nat)
  | ptr (i : Nat) (off : IT)
  | sl (i : Nat) (off len cap : IT)
  | agg (l : List SV)
  | tup (l : List SV)
  | fn (f : Fn) (first cap : List SV)
  | cst (v : Value)
  | grd (g : BT) (x : SV)
  deriving Inhabited
def atAddr (ρ : Env) (i : Nat) (off : Int) : Option Addr := (ρ.ptr i).map fun a => a.add off.toNat
mutual
def SV.den (L : List Nat) (ρ : Env) : SV → Value
  | .undef => Go.undef
  | .junk => Go.undef
  | .int k t => .int k (t.eval ρ)
  | .bool t => .bool (t.eval ρ)
  | .val i => ρ.val i
  | .loc b off => .pointer (some ⟨L.getD b 0, off, none⟩)
  | .slc b off len cap => .slice (some ⟨L.getD b 0, off, none⟩) len cap
  | .ptr i off => .pointer (atAddr ρ i (off.eval ρ))
  | .sl i off len cap => .slice (atAddr ρ i (off.eval ρ)) (len.eval ρ).toNat (cap.eval ρ).toNat
  | .agg l => .agg (SV.dens L ρ l).toArray
  | .tup l => .tuple (SV.dens L ρ l).toArray
  | .fn f a b => .func f (SV.dens L ρ a).toArray (SV.dens L ρ b).toArray
  | .cst v => v
  | .grd g x => bif g.eval ρ then x.den L ρ else Go.undef
def SV.dens (L : List Nat) (ρ : Env) : List SV → List Value
  | [] => []
  | x :: l => x.den L ρ :: SV.dens L ρ l
end
def fnEq : Fn → Fn → Bool
  | .func f, .func g => f == g
  | .yield f, .yield g => f == g
  | _, _ => false
mutual
def SV.same : SV → SV → Bool
  | .undef, .undef => true
  | .int k t, .int k' t' => k == k' && t == t'
  | .bool t, .bool t' => t == t'
  | .val i, .val j => i == j
  | .loc b o, .loc b' o' => b == b' && o == o'
  | .slc b o l c, .slc b' o' l' c' => b == b' && o == o' && l == l' && c == c'
  | .ptr i o, .ptr i' o' => i == i' && o == o'
  | .sl i o l c, .sl i' o' l' c' => i == i' && o == o' && l == l' && c == c'
  | .agg l, .agg l' => SV.sames l l'
  | .tup l, .tup l' => SV.sames l l'
  | .fn f a b, .fn f' a' b' => fnEq f f' && SV.sames a a' && SV.sames b b'
  | .cst (.slice none a b), .cst (.slice none c d) => a == c && b == d
  | .cst (.func f a b), .cst (.func g c d) => fnEq f g && a.size == 0 && b.size == 0 && c.size == 0 && d.size == 0
  | .cst (.pointer none), .cst (.pointer none) => true
  | .cst .nilFunc, .cst .nilFunc => true
  | .cst (.string s), .cst (.string t) => s.data.toList == t.data.toList
  | .cst (.map none), .cst (.map none) => true
  | .grd g x, .grd g' x' => g == g' && x.same x'
  | _, _ => false
def SV.sames : List SV → List SV → Bool
  | [], [] => true
  | x :: l, y :: l' => x.same y && SV.sames l l'
  | _, _ => false
end

inductive Sh where
  | int (k : IntKind)
  | bool
  | val
  | ptr
  | sl
  | agg (l : List Sh)
  | tup (l : List Sh)
  deriving Repr, Inhabited
mutual
def Sh.fresh : Sh → Nat → SV × Nat
  | .int k, n => (.int k (.var n), n + 1)
  | .bool, n => (.bool (.var n), n + 1)
  | .val, n => (.val n, n + 1)
  | .ptr, n => (.ptr n (.lit 0), n + 1)
  | .sl, n => (.sl n (.lit 0) (.var (n + 1)) (.var (n + 2)), n + 3)
  | .agg l, n => let r := Sh.freshs l n; (.agg r.1, r.2)
  | .tup l, n => let r := Sh.freshs l n; (.tup r.1, r.2)
def Sh.freshs : List Sh → Nat → List SV × Nat
  | [], n => ([], n)
  | s :: l, n => let r := s.fresh n; let q := Sh.freshs l r.2; (r.1 :: q.1, q.2)
end

structure Blk where
  cells : List SV
  elem : TypeId
  deriving Inhabited
structure St where
  tmps : List SV
  blks : List Blk
  /-- how many letters there are -/
  nv : Nat
  deriving Inhabited

inductive Ex where
  | normal
  | exit (id : Nat)
  | ret
  deriving Repr, Inhabited, DecidableEq

structure XOp where
  op : Op
  type : TypeId
  args : List SV
  deriving Inhabited
def isFuncO : Operand → Bool | .func _ => true | _ => false
def XOp.sem (op : Op) (ty : TypeId) (vs : List Value) : Sem Next :=
  match op with
  | .call { callee := .builtin b, args, argTypes } => builtin b argTypes ty (args.map fun | .const _ => true | _ => false) vs.toArray
  | .call { callee := .value (.func f), .. } => callFunc f (vs.drop 1).toArray
  | .makeSlice t _ _ => do pure (.value (← Instr.makeSlice t (vs.getD 0 undef) (vs.getD 1 undef)))
  | .slice t _ lo hi mx => do pure (.value (← Instr.sliceAt t (vs.getD 0 undef) (lo.map fun _ => vs.getD 1 undef) (hi.map fun _ => vs.getD (1 + lo.toArray.size) undef) (mx.map fun _ => vs.getD (1 + lo.toArray.size + hi.toArray.size) undef)))
  | .alloc t => do pure (.value (← Instr.alloc t true (.tuple #[])))
  | .binOp op t x y _ => do pure (.value (← (do eqGuard op t x y (vs.getD 0 undef) (vs.getD 1 undef); binOp op t (vs.getD 0 undef) (vs.getD 1 undef))))
  | .convert s d _ => do pure (.value (← convert s d (vs.getD 0 undef)))
  | .makeMap t r => do pure (.value (← Instr.makeMap t (r.map fun _ => vs.getD 0 undef)))
  | .lookup t _ _ ok => do pure (.value (← Instr.lookup t (vs.getD 0 undef) (vs.getD 1 undef) ok))
  | .mapUpdate t _ _ _ => do Instr.mapUpdate t (vs.getD 0 undef) (vs.getD 1 undef) (vs.getD 2 undef); pure .skip
  | .range t _ => do pure (.value (← Instr.range t (vs.getD 0 undef)))
  | .next _ isString => do pure (.value (← Instr.next (vs.getD 0 undef) isString ty))
  | .entry _ => do pure (.value (← Instr.entry (vs.getD 0 undef)))
  | .load t _ => do pure (.value (← Instr.loadAt t (vs.getD 0 undef)))
  | .indexAddr t _ _ => do pure (.value (← Instr.indexAt t (vs.getD 0 undef) (vs.getD 1 undef)))
  | .index t _ _ => do pure (.value (← Instr.index t (vs.getD 0 undef) (vs.getD 1 undef)))
  | .mapEntry t _ _ => do pure (.value (← Instr.mapEntry t (vs.getD 0 undef) (vs.getD 1 undef)))
  | .entryStore t _ _ _ => do Instr.entryStore t (vs.getD 0 undef) (vs.getD 1 undef) (vs.getD 2 undef); pure .skip
  | _ => stuck ""
def normO : Operand → Operand | .const _ => .const (.bool true) | _ => .tmp 0
def XOp.norm : Op → Op
  | .call { callee := .builtin b, args, argTypes } => .call { callee := .builtin b, args := args.map normO, argTypes }
  | .call { callee := .value (.func f), .. } => .call { callee := .value (.func f), args := #[], argTypes := #[] }
  | .makeSlice t _ _ => .makeSlice t (.tmp 0) (.tmp 0)
  | .slice t _ lo hi mx => .slice t (.tmp 0) (lo.map fun _ => .tmp 0) (hi.map fun _ => .tmp 0) (mx.map fun _ => .tmp 0)
  | .binOp op t x y z => .binOp op t (normO x) (normO y) z
  | .convert s d _ => .convert s d (.tmp 0)
  | .makeMap t r => .makeMap t (r.map fun _ => .tmp 0)
  | .lookup t _ _ ok => .lookup t (.tmp 0) (.tmp 0) ok
  | .mapUpdate t _ _ _ => .mapUpdate t (.tmp 0) (.tmp 0) (.tmp 0)
  | .range t _ => .range t (.tmp 0)
  | .next _ b => .next (.tmp 0) b
  | .entry _ => .entry (.tmp 0)
  | .load t _ => .load t (.tmp 0)
  | .indexAddr t _ _ => .indexAddr t (.tmp 0) (.tmp 0)
  | .index t _ _ => .index t (.tmp 0) (.tmp 0)
  | .mapEntry t _ _ => .mapEntry t (.tmp 0) (.tmp 0)
  | .entryStore t _ _ _ => .entryStore t (.tmp 0) (.tmp 0) (.tmp 0)
  | op => op
def XOp.known : Op → Bool
  | .call { callee := .builtin _, .. } | .call { callee := .value (.func _), .. } | .makeSlice .. | .slice .. | .alloc _ | .binOp .. | .convert .. | .makeMap .. | .lookup .. | .mapUpdate .. | .range .. | .next .. | .entry _ | .load .. | .indexAddr .. | .index .. | .mapEntry .. | .entryStore .. => true
  | _ => false
def XOp.unit : Op → Bool
  | .mapUpdate .. | .entryStore .. => true
  | _ => false
inductive Tree where
  | bad (why : String)
  | ret (v : SV) (blks : List Blk)
  | ite (c : BT) (t e : Tree)
  | chk (c : BT) (k : Tree)
  | alloc (k : Tree)
  | load (i : Nat) (off : IT) (sh : List Sh) (blks : List Blk) (k : Tree)
  | store (p : Bool) (i : Nat) (off : IT) (cells : List SV) (blks : List Blk) (k : Tree)
  | call (p : Bool) (f : FuncId) (args : List SV) (sh : Sh) (blks : List Blk) (k : Tree)
  | callv (p : Bool) (f : SV) (args : List SV) (sh : Sh) (blks : List Blk) (k : Tree)
  | ext (p : Bool) (x : XOp) (sh : Sh) (blks : List Blk) (k : Tree)
  | extp (x : XOp) (sh : Sh) (blks : List Blk) (k : Tree)
  | extu (p : Bool) (x : XOp) (blks : List Blk) (k : Tree)
  | exk (x : XOp) (sh : Sh) (blks : List Blk) (r : XOp) (k : Tree)
  | nxt (p : Bool) (x : XOp) (shs : List Sh) (blks : List Blk) (kT kF : Tree)
  | allocb (t : TypeId) (n : Option Nat) (k : Tree)
  | allocc (t : TypeId) (cells : List SV) (k : Tree)
  | makev (e : TypeId) (bytes : Nat) (l c : IT) (k : Tree)
  | apart (xs : List SV) (blks : List Blk) (k : Tree)
  | loop (lvl : Nat) (shs : List Sh) (init : List SV) (blks head : List Blk) (body : Tree)
  | again (lvl nb : Nat) (shs : List Sh) (vals : List SV) (blks : List Blk)
  | join (lvl : Nat) (shs : List Sh) (head : List Blk) (body rest : Tree)
  | leave (c nb : Nat) (shs : List Sh) (vals : List SV) (blks : List Blk)
  | range (f : SV) (psh shs : List Sh) (vals : List SV) (blks head : List Blk) (body rest : Tree)
  deriving Inhabited

/-! ### One operation -/
def ofValue : Value → SV
  | .int k n => .int k (.lit n)
  | .bool b => .bool (.lit b)
  | v => .cst v
def St.ev (st : St) : Operand → SV
  | .tmp t => st.tmps.getD t .undef
  | .const v => ofValue v
  | .global g => .cst (.pointer (some ⟨g, 0, none⟩))
  | .func f => .cst (.func (.func f) #[] #[])
def SV.under (g : BT) : SV → SV
  | .grd d x => if g.gives d then x.under g else .grd d x
  | x => x

inductive New where
  | var
  | row (n c : Nat)
  deriving Inhabited
def New.sv (b : Nat) : New → SV
  | .var => .loc b 0
  | .row n c => .slc b 0 n c
inductive Res where
  | val (x : SV)
  | chk (c : BT) (x : SV)
  | cases (i : IT) (l : List SV)
  | allocb (t : TypeId) (n : Option (Nat × Nat))
  | allocc (t : TypeId) (n : Option (Nat × Nat)) (cells : List SV)
  | alloc (b : Blk) (x : New)
  | makev (e : TypeId) (bytes : Nat) (l c : IT)
  | upd (b off : Nat) (cells : List SV)
  | load (i : Nat) (off : IT) (sh : List Sh) (agg : Bool)
  | store (i : Nat) (off : IT) (cells : List SV)
  | call (f : FuncId) (args : List SV) (sh : Sh)
  | callv (f : SV) (args : List SV) (sh : Sh)
  | ext (sh : Sh)
  | nxt (shs : List Sh)
  | split (c : BT)
  | bad (why : String)
  deriving Inhabited

def cellShape : Value → Sh
  | .int k _ => .int k
  | .bool _ => .bool
  | .pointer _ => .ptr
  | .slice .. => .sl
  | _ => .val
def zeroCells (P : Program) (t : TypeId) : Option (List Value) := ((P.info? t).bind (·.zero)).map (·.cells.toList)
def isAggT (P : Program) (t : TypeId) : Bool := match P.underlying t with | some (.struct _) | some (.array ..) => true | _ => false
def sizeT (P : Program) (t : TypeId) : Nat := ((P.info? t).map (·.size)).getD 0
def shapeT (P : Program) (t : TypeId) : Option Sh :=
  match P.underlying t with
  | some (.tuple ts) => (ts.toList.mapM fun u => (zeroCells P u).map fun cs => if isAggT P u then Sh.agg (cs.map (cellShape)) else (cs.map (cellShape)).headD .val).map .tup
  | some _ => (zeroCells P t).map fun cs => if isAggT P t then Sh.agg (cs.map (cellShape)) else (cs.map (cellShape)).headD .val
  | none => none
def SV.one : SV → Bool
  | .junk | .undef | .tup _ | .grd .. | .agg _ => false
  | .cst (.agg _) | .cst (.tuple _) => false
  | _ => true
def SV.cells : SV → Option (List SV)
  | .agg l => if l.all SV.one then some l else none
  | x => if x.one then some [x] else none
def SV.firm : SV → Bool
  | .junk | .undef | .grd .. => false
  | _ => true
def fieldT (P : Program) (s : TypeId) (f : Nat) : Option Field := match P.underlying s with | some (.struct fs) => fs[f]? | _ => none
def partS (P : Program) (t : TypeId) (l : List SV) (off : Nat) : Option SV :=
  if (P.underlying t).isNone then none else
  if isAggT P t then (if off + sizeT P t ≤ l.length then some (.agg ((l.drop off).take (sizeT P t))) else none) else l[off]?
def putAt {α : Type} (l : List α) (off : Nat) (cs : List α) : List α := l.take off ++ cs ++ l.drop (off + cs.length)
def fillS (place : Nat → Option (Nat × Nat)) (l : List SV) : List (Nat × SV) → Option (List SV)
  | [] => some l
  | (i, x) :: rest =>
    match place i, x.cells with
    | some (off, size), some cs => if cs.length ≠ size || off + cs.length > l.length then none else fillS place (putAt l off cs) rest
    | _, _ => none
def eqS (P : Program) : Nat → TypeId → SV → SV → Option BT
  | 0, _, _, _ => none
  | d + 1, t, x, y =>
    match P.underlying t, x, y with
    | some (.int _), .int k a, .int k' b => if k = k' then some (.mkCmp .eql a b) else none
    | some .bool, .bool a, .bool b => some (.mkBeq a b)
    | some (.struct fs), .agg xs, .agg ys =>
      if P.stoodInHeld t then none else
      fs.toList.foldr (fun f acc => do
        let r ← acc
        if f.name = "_" then none else
        let a ← partS P f.type xs f.offset
        let b ← partS P f.type ys f.offset
        let e ← eqS P d f.type a b
        pure (BT.mkAnd e r)) (some (.lit true))
    | some (.array n e), .agg xs, .agg ys =>
      if (P.info? e).isNone then none else
      (List.range n).foldr (fun i acc => do
        let r ← acc
        let a ← partS P e xs (i * sizeT P e)
        let b ← partS P e ys (i * sizeT P e)
        let q ← eqS P d e a b
        pure (BT.mkAnd q r)) (some (.lit true))
    | _, _, _ => none
def intOfS : SV → Option IT | .int _ t => some t | _ => none
def optB : Option Res → Res | some r => r | none => .bad "shape"

def placeOf (P : Program) (t : TypeId) : Option (Nat → Option (Nat × Nat)) :=
  match P.underlying t with
  | some (.struct fs) => if fs.toList.all fun f => (P.info? f.type).isSome then some fun i => (fs[i]?).map fun f => (f.offset, sizeT P f.type) else none
  | some (.array _ e) => if (P.info? e).isSome then some fun i => some (i * sizeT P e, sizeT P e) else none
  | _ => none
def sliceElem (P : Program) (t : TypeId) : Option TypeId := match P.underlying t with | some (.slice e) => some e | _ => none
def aggOf : SV → Option (List SV) | .agg l => some l | _ => none
def goodFn (P : Program) (f : FuncId) : Bool := match P.funcs[f]? with | some fn => fn.body.isSome && fn.name != "runtime.NumGoroutine" | none => false
def boundI (ev : Operand → SV) (x : Option Operand) (d : IT) : Option IT :=
  match x with
  | none => some d
  | some x => intOfS (ev x)
def bigCells (P : Program) (t : TypeId) (n : Option Nat) : List Value :=
  match n with
  | none => (zeroCells P t).getD []
  | some c => (madeCells ((zeroCells P t).getD []).toArray (c * sizeT P t)).toList
def stepOp (P : Program) (st : St) (ev : Operand → SV) (o : Oper) : Res :=
  match o.op with
  | .move x | .assign x => .val (ev x)
  | .pick c a b =>
    match ev c with
    | .bool (.lit true) => .val (ev a)
    | .bool (.lit false) => .val (ev b)
    | .bool c =>
      match (ev a).under c, (ev b).under (.mkNot c) with
      | .bool x, .bool y => .val (.bool (.mkPick c x y))
      | _, _ => .split c
    | _ => .bad "pick"
  | .alloc t => optB do
    let z ← zeroCells P t
    if z.length > 64 then pure (.allocb t none) else
    pure (.alloc ⟨z.map ofValue, t⟩ .var)
  | .box t x => optB do
    let cs ← (ev x).cells
    if cs.length > 64 then pure (.allocc t none cs) else pure (.alloc ⟨cs, t⟩ .var)
  | .build t parts => optB do
    let z ← zeroCells P t
    let place ← placeOf P t
    let cs ← fillS place (z.map ofValue) (parts.toList.map fun (i, x) => (i, ev x))
    pure (.val (.agg cs))
  | .buildSlice t n parts => optB do
    let e ← sliceElem P t
    let z ← zeroCells P e
    let size := sizeT P e
    if n * size > 256 then none else
    let cs ← fillS (fun i => some (i * size, size)) ((List.range (n * size)).map fun i => ofValue (z.toArray[i % z.length]!)) (parts.toList.map fun (i, x) => (i, ev x))
    pure (.alloc ⟨cs, e⟩ (.row n n))
  | .load t a =>
    match ev a with
    | .loc b off => optB do
      let blk ← st.blks[b]?
      let x ← partS P t blk.cells off
      pure (.val x)
    | .ptr i off => optB do
      let z ← zeroCells P t
      if (P.underlying t).isNone || z.length ≠ sizeT P t || (!isAggT P t && z.length ≠ 1) then none else
      pure (.load i off (z.map cellShape) (isAggT P t))
    | _ => optB do pure (.ext (← shapeT P t))
  | .store t a x =>
    match ev a with
    | .loc b off => optB do
      let blk ← st.blks[b]?
      let cs ← (ev x).cells
      if (P.underlying t).isNone || cs.length ≠ sizeT P t || off + cs.length > blk.cells.length then none else
      pure (.upd b off cs)
    | .ptr i off => optB do
      let cs ← (ev x).cells
      if (P.underlying t).isNone || cs.length ≠ sizeT P t then none else
      pure (.store i off cs)
    | _ => .bad "store"
  | .binOp op t x y _ =>
    match ev x, ev y with
    | .int k a, .int k' b =>
      match op with
      | .shl | .shr => .chk (.mkCmp .geq b (.lit 0)) (.int k (.mkBin op k a b))
      | .quo | .rem => if k = k' then .chk (.mkCmp .neq b (.lit 0)) (.int k (.mkBin op k a b)) else .bad "kinds"
      | .eql | .neq | .lss | .leq | .gtr | .geq => if k = k' then .val (.bool (.mkCmp op a b)) else .bad "kinds"
      | _ => if k = k' then .val (.int k (.mkBin op k a b)) else .bad "kinds"
    | a, b =>
      match op with
      | .eql => if P.eqGuardType P.depth t then .bad "eql" else match eqS P 8 t a b with | some e => .val (.bool e) | none => .ext .bool
      | .neq => if P.eqGuardType P.depth t then .bad "neq" else match eqS P 8 t a b with | some e => .val (.bool (.mkNot e)) | none => .ext .bool
      | _ => .ext .val
  | .unOp .not _ x => match ev x with | .bool b => .val (.bool (.mkNot b)) | _ => .bad "not"
  | .unOp .neg _ x => match ev x with | .int k a => .val (.int k (.mkBin .sub k (.lit 0) a)) | _ => .bad "neg"
  | .convert src dst x =>
    match P.underlying src, P.underlying dst, ev x with
    | some _, some (.int k), .int _ a => .val (.int k (.mkConv k a))
    | _, _, _ => .ext .val
  | .makeFunc f a b => if (a.toList.map ev).all SV.firm && (b.toList.map ev).all SV.firm then .val (.fn f (a.toList.map ev) (b.toList.map ev)) else .bad "makeFunc"
  | .fieldAddr s x f =>
    match fieldT P s f with
    | none => .bad "field"
    | some fd =>
      if sizeT P fd.type = 0 then .bad "field" else
      match ev x with
      | .loc b off => .val (.loc b (off + fd.offset))
      | .ptr i off => .chk (.mkAnd (.mkCmp .geq off (.lit 0)) (.some i)) (.ptr i (.mkOff (.lit fd.offset) 1 off))
      | _ => .bad "field"
  | .field s x f => optB do
    let fd ← fieldT P s f
    let l ← aggOf (ev x)
    pure (.val (← partS P fd.type l fd.offset))
  | .indexAddr t x ix =>
    match P.underlying t, ev x, ev ix with
    | some (.array n e), .loc b off, .int _ (.lit j) => if 0 ≤ j ∧ j < n ∧ (P.info? e).isSome then .val (.loc b (off + j.toNat * sizeT P e)) else .bad "index"
    | some (.array n e), .ptr p off, .int _ i => if (P.info? e).isSome then .chk (.mkAnd (.mkCmp .geq off (.lit 0)) (.mkAnd (.mkCmp .geq i (.lit 0)) (.mkAnd (.mkCmp .lss i (.lit n)) (.some p)))) (.ptr p (.mkOff i (sizeT P e) off)) else .bad "index"
    | some (.slice e), .slc b off len _, .int _ (.lit j) => if 0 ≤ j ∧ j < len ∧ (P.info? e).isSome then .val (.loc b (off + j.toNat * sizeT P e)) else .bad "index"
    | some (.slice e), .sl p off len _, .int _ i => if (P.info? e).isSome then .chk (.mkAnd (.mkCmp .geq off (.lit 0)) (.mkAnd (.mkCmp .geq i (.lit 0)) (.mkAnd (.mkCmp .lss i len) (.some p)))) (.ptr p (.mkOff i (sizeT P e) off)) else .bad "index"
    | some (.array n e), .loc b off, .int _ i => if n ≤ 8 ∧ (P.info? e).isSome then .cases i ((List.range n).map fun j => .loc b (off + j * sizeT P e)) else .bad "index"
    | some (.slice e), .slc b off len _, .int _ i => if len ≤ 8 ∧ (P.info? e).isSome then .cases i ((List.range len).map fun j => .loc b (off + j * sizeT P e)) else .bad "index"
    | some (.array _ _), .cst _, .int _ _ => .ext .ptr
    | _, _, _ => .bad "index"
  | .index t x ix =>
    match P.underlying t, ev x, ev ix with
    | some (.array n e), .agg l, .int _ (.lit j) =>
      if 0 ≤ j ∧ j < n then match partS P e l (j.toNat * sizeT P e) with | some x => .val x | none => .bad "index" else .bad "index"
    | some (.array n e), .agg l, .int _ i => if n ≤ 8 then match (List.range n).mapM fun j => partS P e l (j * sizeT P e) with | some vs => .cases i vs | none => .bad "index" else .bad "index"
    | some .string, _, _ => .ext (.int .u8)
    | _, _, _ => .bad "index"
  | .extract x i => match ev x with | .tup l => optB (l[i]?.map .val) | _ => .bad "extract"
  | .nilCheck x =>
    match ev x with
    | .loc b o => .val (.loc b o)
    | .ptr i o => .chk (.some i) (.ptr i o)
    | .fn (.func f) a b => .val (.fn (.func f) a b)
    | .cst (.func (.func f) a b) => .val (.cst (.func (.func f) a b))
    | _ => .bad "nilCheck"
  | .call c =>
    match c.callee with
    | .builtin .len =>
      match (c.argTypes[0]?).bind P.underlying, c.args.toList.map ev with
      | some (.slice _), [.slc _ _ n _] => .val (.int .i64 (.lit n))
      | some (.slice _), [.sl _ _ n _] => .chk (.mkCmp .geq n (.lit 0)) (.int .i64 n)
      | some (.slice _), [.cst (.slice none n _)] => .val (.int .i64 (.lit n))
      | _, _ => .ext (.int .i64)
    | .builtin .min =>
      match c.args.toList.map ev with
      | [.int k x, .int _ y] => .val (.int k (.mn x y))
      | _ => .bad "min"
    | .builtin .max =>
      match c.args.toList.map ev with
      | [.int k x, .int _ y] => .val (.int k (.mx x y))
      | _ => .bad "max"
    | .builtin _ => optB do pure (.ext (← shapeT P o.type))
    | .value f =>
      match ev f with
      | .cst (.func (.func g) ⟨[]⟩ ⟨[]⟩) => optB do if goodFn P g then pure (.call g (c.args.toList.map ev) (← shapeT P o.type)) else if isFuncO f then pure (.ext (← shapeT P o.type)) else none
      | .fn (.func f) [] cap => optB do if goodFn P f then pure (.call f (c.args.toList.map ev ++ cap) (← shapeT P o.type)) else none
      | f => optB do pure (.callv f (c.args.toList.map ev) (← shapeT P o.type))
    | _ => .bad "invoke"
  | .slice t x lo hi mx =>
    match P.underlying t, ev x, mx with
    | some (.slice e), .slc b off len cap, none =>
      match boundI ev lo (.lit 0), boundI ev hi (.lit len) with
      | some (.lit l), some (.lit h) => if 0 ≤ l ∧ l ≤ h ∧ h ≤ cap ∧ (P.info? e).isSome then .val (.slc b (if cap = l.toNat then off else off + l.toNat * sizeT P e) (h.toNat - l.toNat) (cap - l.toNat)) else .bad "slice"
      | _, _ => .ext .sl
    | some (.slice e), .sl p off len cap, none =>
      match boundI ev lo (.lit 0), boundI ev hi len with
      | some l, some h => if (P.info? e).isSome then .chk (.mkAnd (.mkCmp .geq off (.lit 0)) (.mkAnd (.mkCmp .leq (.lit 0) l) (.mkAnd (.mkCmp .leq l h) (.mkCmp .leq h cap)))) (.sl p (.mkIfeq cap l off (.mkOff l (sizeT P e) off)) (.mkDif h l) (.mkDif cap l)) else .bad "slice"
      | _, _ => .ext .sl
    | some (.slice _), _, _ => .ext .sl
    | _, _, _ => optB do pure (.ext (← shapeT P o.type))
  | .makeSlice t l c =>
    match isConstOp l && isConstOp c, ev l, ev c with
    | true, .int _ (.lit n), .int _ (.lit m) => optB do
      let e ← sliceElem P t
      let i ← P.info? e
      let z ← zeroCells P e
      if 0 ≤ n ∧ n ≤ m ∧ m ≤ 65536 ∧ i.bytes ≤ 65536 ∧ z.length = sizeT P e then
        if m.toNat * sizeT P e > 64 then pure (.allocb e (some (n.toNat, m.toNat)))
        else pure (.alloc ⟨(madeCells z.toArray (m.toNat * sizeT P e)).toList.map ofValue, e⟩ (.row n.toNat m.toNat))
      else none
    | _, .int _ n, .int _ m => optB do
      let e ← sliceElem P t
      let i ← P.info? e
      let _ ← zeroCells P e
      pure (.makev e i.bytes n m)
    | _, _, _ => .ext .sl
  | _ => optB do pure (.ext (← shapeT P o.type))

def guardOf (st : St) (ops : Array Oper) (o : Oper) : Option BT :=
  match o.guard with
  | none => some (.lit true)
  | some (j, want) =>
    match (ops[j]?).bind (·.dst) with
    | none => some (.lit false)
    | some d =>
      match st.tmps.getD d .undef with
      | .bool c => some (if want then c else .mkNot c)
      | .grd g (.bool c) => some (.mkAnd g (if want then c else .mkNot c))
      | .undef => some (.lit false)
      | _ => none
def St.put (st : St) (d : Option Tmp) (x : SV) : St := match d with | some d => { st with tmps := st.tmps.set d x } | none => st
def SV.mkGrd (g : BT) (x : SV) : SV := match x with | .junk => .junk | x => .grd g x
def SV.subst (c : BT) (b : Bool) : SV → SV
  | .bool t => .bool (BT.subst c b t)
  | .grd g x =>
    match BT.subst c b g with
    | .lit true => SV.subst c b x
    | .lit false => .undef
    | g => .mkGrd g (SV.subst c b x)
  | x => x
def substFn (c : BT) (b : Bool) : SV → SV :=
  match c with
  | .not d => SV.subst d !b
  | c => SV.subst c b
def St.subst (st : St) (c : BT) (b : Bool) : St := { st with tmps := st.tmps.map (substFn c b) }

/-! ### Code -/
structure LoopAnn where
  key : Nat
  tmps : List (Nat × Sh) := []
  cells : List (Nat × Nat × Sh) := []
  join : Bool := false
  /-- slots of which nothing need be known, as a number's bits -/
  dead : Nat := 0
  deriving Inhabited
inductive K where
  | seq (c : Code)
  | block (id : Nat)
  | loop (lvl : Nat) (head : St) (nv : Nat) (shs : List Sh) (tmps : List Nat) (cells : List (Nat × Nat))
  | round (es : List Ex) (head : St) (nv : Nat) (shs : List Sh) (cells : List (Nat × Nat))
  | start (b : Code) (es : List Ex) (head : St) (nv : Nat) (shs : List Sh) (cells : List (Nat × Nat))
  deriving Inhabited
inductive Task where
  | code (c : Code)
  | body (c : Code)
  | exit (e : Ex)
  | lst (ops : Array Oper) (l : List Ent)
  deriving Inhabited
def Code.dsts : Code → List Nat
  | .region _ ops _ => ops.toList.filterMap (·.dst)
  | .seq a b => dsts a ++ dsts b
  | .cond _ a b => dsts a ++ dsts b
  | .block _ b => dsts b
  | .loop b => dsts b
  | .rangeFunc _ _ a b => dsts a ++ dsts b
  | .scope b => dsts b
  | _ => []
def Code.key : Code → Nat
  | .region id _ _ => id
  | .seq a _ => key a
  | .cond _ a _ => key a
  | .block _ b => key b
  | .loop b => key b
  | .rangeFunc _ _ a _ => key a
  | .scope b => key b
  | _ => 0
def SV.shape : SV → Option Sh
  | .int k _ => some (.int k)
  | .bool _ => some .bool
  | .val _ => some .val
  | .loc .. | .ptr .. => some .ptr
  | .slc .. | .sl .. => some .sl
  | .cst (.slice none _ _) => some .sl
  | .cst (.pointer none) => some .ptr
  | .cst (.string _) | .cst (.map _) => some .val
  | .agg l => if l.all SV.one then (go l).map .agg else none
  | _ => none
where go : List SV → Option (List Sh)
  | [] => some []
  | x :: l => do
    let s ← match x with
      | .int k _ => some (Sh.int k)
      | .bool _ => some .bool
      | .val _ => some .val
      | .loc .. | .ptr .. => some .ptr
      | .slc .. | .sl .. => some .sl
      | .cst (.slice none _ _) => some .sl
      | .cst (.pointer none) => some .ptr
      | .cst (.string _) | .cst (.map _) => some .val
      | _ => none
    pure (s :: (← go l))
def Code.opers : Code → List Oper
  | .region _ ops _ => ops.toList
  | .seq a b => opers a ++ opers b
  | .cond _ a b => opers a ++ opers b
  | .block _ b => opers b
  | .loop b => opers b
  | .rangeFunc _ _ a b => opers a ++ opers b
  | .scope b => opers b
  | _ => []
def rootsOf (st : St) (ops : List Oper) : List (Nat × Nat) :=
  let r0 := st.tmps.zipIdx.filterMap fun (x, i) => match x with | .loc b _ => some (i, b) | .slc b .. => some (i, b) | _ => none
  ops.foldl (fun r o =>
    let base : Option Operand := match o.op with
      | .fieldAddr _ x _ => some x
      | .indexAddr _ x _ => some x
      | .move x => some x
      | .assign x => some x
      | .nilCheck x => some x
      | .slice _ x _ _ _ => some x
      | _ => none
    match base, o.dst with
    | some (.tmp t), some d => match r.find? (·.1 == t) with | some (_, b) => (d, b) :: r | none => r
    | _, _ => r) r0
def storedBlks (st : St) (ops : List Oper) : List Nat :=
  let r := rootsOf st ops
  (ops.filterMap fun o => match o.op with | .store _ (.tmp t) _ => (r.find? (·.1 == t)).map (·.2) | _ => none).eraseDups
def parShOf (P : Program) (ops : List Oper) (p : Nat) : Option Sh := ops.findSome? fun o => match o.op with
  | .store t _ (.tmp q) => if q = p then shapeT P t else none
  | .move (.tmp q) => if q = p then shapeT P o.type else none
  | .assign (.tmp q) => if q = p then shapeT P o.type else none
  | _ => none
def maskOf (l : List Nat) : Nat := l.foldl (fun n d => n ||| 2 ^ d) 0
def annT (mask : Nat) : Nat → List SV → List (Nat × Sh)
  | _, [] => []
  | i, x :: l => if mask.testBit i then (match x.shape with | some s => (i, s) :: annT mask (i + 1) l | none => annT mask (i + 1) l) else annT mask (i + 1) l
def junkT (mask : Nat) : Nat → List SV → List SV
  | _, [] => []
  | i, x :: l => (if mask.testBit i then .junk else x) :: junkT mask (i + 1) l
def autoAnn (st : St) (body : Code) : LoopAnn :=
  let tm := annT (maskOf (Code.dsts body)) 0 st.tmps
  let bs := storedBlks st (Code.opers body)
  let cl := st.blks.zipIdx.flatMap fun (b, j) => if bs.contains j then b.cells.zipIdx.filterMap fun (x, o) => x.shape.map fun s => (j, o, s) else []
  { key := Code.key body, tmps := tm, cells := cl }
def setCell (blks : List Blk) (b o : Nat) (x : SV) : List Blk := blks.modify b fun k => { k with cells := k.cells.set o x }
def headSt (st : St) (dsts : List Nat) (ann : LoopAnn) : St :=
  let t1 := junkT (maskOf dsts) 0 st.tmps
  let (t2, n2) := ann.tmps.foldl (fun (t, n) (i, s) => let r := s.fresh n; (t.set i r.1, r.2)) (t1, st.nv)
  let (b2, n3) := ann.cells.foldl (fun (bl, n) (b, o, s) => let r := s.fresh n; (setCell bl b o r.1, r.2)) (st.blks, n2)
  { tmps := t2, blks := b2, nv := n3 }
def cellAt (st : St) (b o : Nat) : SV := (st.blks[b]?.bind (·.cells[o]?)).getD .junk
def valsAt (st : St) (tmps : List Nat) (cells : List (Nat × Nat)) : List SV :=
  tmps.map (st.tmps.getD · .junk) ++ cells.map fun (b, o) => cellAt st b o
/-! Letters and blocks that a value names lie below these numbers. -/
def IT.sc (nv : Nat) : IT → Bool
  | .lit _ => true
  | .var i => i < nv
  | .bin _ _ x y => x.sc nv && y.sc nv
  | .conv _ x => x.sc nv
  | .mn x y => x.sc nv && y.sc nv
  | .mx x y => x.sc nv && y.sc nv
  | .off x _ y => x.sc nv && y.sc nv
  | .dif x y => x.sc nv && y.sc nv
  | .ifeq a b x y => a.sc nv && b.sc nv && x.sc nv && y.sc nv
def BT.sc (nv : Nat) : BT → Bool
  | .lit _ => true
  | .var i => i < nv
  | .cmp _ x y => x.sc nv && y.sc nv
  | .not x => x.sc nv
  | .pick c x y => c.sc nv && x.sc nv && y.sc nv
  | .beq x y => x.sc nv && y.sc nv
  | .some i => i < nv
mutual
def SV.sc (nb nv : Nat) : SV → Bool
  | .undef | .junk | .cst _ => true
  | .int _ t => t.sc nv
  | .bool t => t.sc nv
  | .val i => i < nv
  | .loc b _ => b < nb
  | .slc b _ _ _ => b < nb
  | .ptr i o => i < nv && o.sc nv
  | .sl i o l c => i < nv && o.sc nv && l.sc nv && c.sc nv
  | .agg l => SV.scs nb nv l
  | .tup l => SV.scs nb nv l
  | .fn _ a b => SV.scs nb nv a && SV.scs nb nv b
  | .grd g x => g.sc nv && x.sc nb nv
def SV.scs (nb nv : Nat) : List SV → Bool
  | [] => true
  | x :: l => x.sc nb nv && SV.scs nb nv l
end
def scBlks (nv : Nat) (blks : List Blk) : Bool := blks.all fun b => SV.scs blks.length nv b.cells
def scSt (st : St) : Bool := scBlks st.nv st.blks && SV.scs st.blks.length st.nv st.tmps
mutual
def Sh.fits : Sh → SV → Bool
  | .int k, .int k' _ => k == k'
  | .bool, .bool _ => true
  | .val, x => x.one && x.firm
  | .ptr, .ptr .. => true
  | .ptr, .loc .. => true
  | .ptr, .cst (.pointer none) => true
  | .sl, .sl .. => true
  | .sl, .slc .. => true
  | .sl, .cst (.slice none _ _) => true
  | .agg s, .agg l => Sh.fitss s l
  | .tup s, .tup l => Sh.fitss s l
  | _, _ => false
def Sh.fitss : List Sh → List SV → Bool
  | [], [] => true
  | s :: ss, x :: l => s.fits x && Sh.fitss ss l
  | _, _ => false
end
mutual
def Sh.us (L : List Nat) (ρ : Env) : Sh → SV → List U
  | .int _, .int _ t => [.i (t.eval ρ)]
  | .bool, .bool t => [.b (t.eval ρ)]
  | .val, x => [.v (x.den L ρ)]
  | .ptr, .ptr i o => [.p (atAddr ρ i (o.eval ρ))]
  | .ptr, .loc b o => [.p (some ⟨L.getD b 0, o, none⟩)]
  | .ptr, _ => [.p none]
  | .sl, .sl i o l c => [.p (atAddr ρ i (o.eval ρ)), .i (l.eval ρ), .i (c.eval ρ)]
  | .sl, .slc b o l c => [.p (some ⟨L.getD b 0, o, none⟩), .i l, .i c]
  | .sl, .cst (.slice none l c) => [.p none, .i l, .i c]
  | .agg s, .agg l => Sh.uss L ρ s l
  | .tup s, .tup l => Sh.uss L ρ s l
  | _, _ => []
def Sh.uss (L : List Nat) (ρ : Env) : List Sh → List SV → List U
  | s :: ss, x :: l => s.us L ρ x ++ Sh.uss L ρ ss l
  | _, _ => []
end
def fitsT (tm : List Nat) (nb nv : Nat) : Nat → List SV → List SV → Bool
  | i, x :: l, y :: l' => ((y matches .junk) || (x.same y && y.sc nb nv) || tm.contains i) && fitsT tm nb nv (i + 1) l l'
  | _, [], [] => true
  | _, _, _ => false
def fitsHead (st head : St) (nv : Nat) (shs : List Sh) (tmps : List Nat) (cells : List (Nat × Nat)) : Bool :=
  Sh.fitss shs (valsAt st tmps cells) && SV.sames (Sh.freshs shs nv).1 (valsAt head tmps cells) &&
  fitsT tmps head.blks.length nv 0 st.tmps head.tmps && tmps.all (· < st.tmps.length) &&
  head.blks.length ≤ st.blks.length &&
  ((List.range head.blks.length).all fun b => match st.blks[b]?, head.blks[b]? with
    | some x, some y => x.elem == y.elem && x.cells.length == y.cells.length &&
      (List.range x.cells.length).all fun o => cells.contains (b, o) || ((x.cells.getD o .junk).same (y.cells.getD o .junk) && (y.cells.getD o .junk).sc head.blks.length nv)
    | _, _ => false)
def okSeq (ops : Array Oper) : Bool := ops.all fun o => match o.op with | .defer _ => false | _ => true
/-! The order in which a region that draws its order is walked. -/
def readyC (ops : Array Oper) (listed i : Nat) : Bool := !listed.testBit i && match ops[i]? with
  | some o => o.after.all fun e => !Region.binds .any e || listed.testBit e.on
  | none => false
def pickC (ops : Array Oper) (befs : List Nat) (listed : Nat) : Option Nat :=
  let r := (List.range ops.size).filter fun i => readyC ops listed i
  match r.find? fun i => kdAt ops i = .pure || kdAt ops i = .load with
  | some i => some i
  | none =>
    match (List.range ops.size).find? fun i => !listed.testBit i && kdAt ops i = .eff with
    | some c => if r.contains c then some c else r.find? fun i => kdAt ops i = .alloc && (befs.getD c 0).testBit i
    | none => r.head?
def orderC (ops : Array Oper) (befs : List Nat) : Nat → Nat → List Nat
  | 0, _ => []
  | n + 1, listed => match pickC ops befs listed with
    | some i => i :: orderC ops befs n (listed ||| 2 ^ i)
    | none => []
def flagsC (ops : Array Oper) (befs : List Nat) : List Nat → List Nat → List Ent
  | _, [] => []
  | pre, i :: l =>
    let before := pre.any fun x => !(befs.getD i 0).testBit x && (kdAt ops x = .alloc || kdAt ops x = .eff)
    let fr := kdAt ops i = .pure && (before || l.any fun t => kdAt ops t = .eff && !(befs.getD t 0).testBit i)
    let p := if kdAt ops i = .eff then pre.foldl (fun m x => if !(befs.getD i 0).testBit x && kdAt ops x = .load then m ||| 2 ^ x else m) 0 else 0
    (i, fr, p) :: flagsC ops befs (pre ++ [i]) l
def canon (ops : Array Oper) (befs : List Nat) : List Ent := flagsC ops befs [] (orderC ops befs ops.size 0)
def loopLvl (k : List K) : Nat := (k.filter fun | .loop .. => true | _ => false).length
def Ex.code : Ex → Nat | .normal => 0 | .ret => 1 | .exit id => id + 2
def Code.leaves : Code → List Ex
  | .ret => [.ret]
  | .exit id => [.exit id]
  | .seq a b => leaves a ++ leaves b
  | .cond _ a b => leaves a ++ leaves b
  | .block id b => (leaves b).filter fun e => e != .exit id
  | .loop b => leaves b
  | .rangeFunc _ _ _ b => leaves b
  | .scope b => leaves b
  | _ => []

def resultS (st : St) (P : Program) : List ResultVar → Option (List SV)
  | [] => some []
  | .tmp t :: r => do pure (st.tmps.getD t .undef :: (← resultS st P r))
  | .cell t ty :: r => do
    let .loc b off := st.tmps.getD t .undef | none
    let blk ← st.blks[b]?
    pure ((← partS P ty blk.cells off) :: (← resultS st P r))
def resT (P : Program) : List ResultVar → St → List SV → Tree
  | [], st, acc => if acc.all SV.firm then .ret (match acc with | [x] => x | l => .tup l) st.blks else .bad "ret"
  | .tmp t :: r, st, acc => resT P r st (acc ++ [st.tmps.getD t .undef])
  | .cell t ty :: r, st, acc =>
    match st.tmps.getD t .undef with
    | .ptr i off =>
      match zeroCells P ty with
      | none => .bad "results"
      | some z =>
        if (P.underlying ty).isNone || z.length ≠ sizeT P ty || (!isAggT P ty && z.length ≠ 1) || !SV.scs st.blks.length st.nv acc || !scSt st then .bad "results" else
        .load i off (z.map cellShape) st.blks (resT P r { st with nv := (Sh.freshs (z.map cellShape) st.nv).2 } (acc ++ [if isAggT P ty = true then .agg (Sh.freshs (z.map cellShape) st.nv).1 else (Sh.freshs (z.map cellShape) st.nv).1.headD .junk]))
    | _ => .bad "results"
def retTree (P : Program) (res : Option (List ResultVar)) (e : Ex) (st : St) : Tree :=
  match res with
  | none => .bad "round"
  | some rs =>
    match e with
    | .exit _ => .bad "exit"
    | _ =>
      match resultS st P rs with
      | none => resT P rs st []
      | some [x] => if x.firm then .ret x st.blks else .bad "ret"
      | some l => if l.all SV.firm then .ret (.tup l) st.blks else .bad "ret"

structure Cfg where
  P : Program
  res : Option (List ResultVar)
  ann : List LoopAnn := []
  joins : List Nat := []
def Cfg.big (C : Cfg) : Nat := ((C.ann.find? fun x => x.key == 999999).map (·.dead)).getD 0
def Res.big (m : Nat) (d : Option Tmp) (r : Res) : Res :=
  match r, d with
  | .alloc b .var, some d => if m.testBit d = true then .allocc b.elem none b.cells else r
  | .alloc b (.row n c), some d => if m.testBit d = true then .allocc b.elem (some (n, c)) b.cells else r
  | r, _ => r
def condOf (st : St) (ops : Array Oper) (o : Oper) (g : BT) : BT :=
  match (o.guard.bind fun (j, _) => (ops[j]?).bind (·.dst)).map (st.tmps.getD · .undef) with
  | some (.bool c) => c
  | some (.grd d _) => d
  | _ => g
def guardBy (st : St) (ops : Array Oper) (o : Oper) : Option BT :=
  match (o.guard.bind fun (j, _) => (ops[j]?).bind (·.dst)).map (st.tmps.getD · .undef) with
  | some (.grd d _) => some d
  | _ => none
def splitT (next : Task → St → Tree) (st : St) (again : Task) (c : BT) : Tree := .ite c (next again (st.subst c true)) (next again (st.subst c false))
def sureT (next : Task → St → Tree) (st : St) (ops : Array Oper) (o : Oper) (again : Task) (g : BT) (t : Tree) : Tree :=
  if g = .lit true then t else splitT next st again (condOf st ops o g)
def scT (st : St) (t : Tree) : Tree := if scSt st = true then t else .bad "scope"
def firmT (l : List SV) (t : Tree) : Tree := if l.all SV.firm = true then t else .bad "operands"
def letT (next : Task → St → Tree) (st : St) (o : Oper) (then_ : Task) (sh : Sh) : Tree := next then_ ({ st with nv := (sh.fresh st.nv).2 }.put o.dst (sh.fresh st.nv).1)
def casesT (next : Task → St → Tree) (st : St) (o : Oper) (then_ : Task) (i : IT) : Nat → List SV → Tree
  | _, [] => .bad "cases"
  | j, x :: l => .ite (.cmp .eql i (.lit j)) (next then_ (st.put o.dst x)) (casesT next st o then_ i (j + 1) l)
def okKeep (P : Program) (st : St) (ops : Array Oper) (p b : Nat) : Bool := (List.range ops.size).all fun i => !p.testBit i ||
  match ops[i]? with
  | some o =>
    match o.op with
    | .load t x =>
      match st.ev x with
      | .loc b' off => b' != b && match st.blks[b']? with | some blk => (partS P t blk.cells off).isSome | none => false
      | _ => false
    | _ => false
  | none => true
def farPtr (P : Program) (st : St) (ops : Array Oper) (p b i : Nat) : Option (List SV) := if (!p.testBit i || okKeep P st ops (2 ^ i) b) = true then some [] else
  match ops[i]? with
  | some o =>
    match o.op with
    | .load _ x => if (st.ev x).firm = true then some [st.ev x] else none
    | _ => none
  | none => some []
def farPtrs (P : Program) (st : St) (ops : Array Oper) (p b : Nat) : Option (List SV) := (List.range ops.size).foldr (fun i r => (farPtr P st ops p b i).bind fun l => r.map (l ++ ·)) (some [])
def Cfg.iter (C : Cfg) (t : Tmp) : Option (List Sh) := (C.ann.find? fun x => x.key == 999998).bind fun x => (x.tmps.find? fun q => q.1 == t).map fun q => match q.2 with | .tup l => l | _ => []
def Res.iter (C : Cfg) (o : Oper) (r : Res) : Res :=
  match o.op with
  | .range .. => .ext .ptr
  | .next (.tmp t) false => match C.iter t with | some l => .nxt l | none => .bad "iterator"
  | .entry (.tmp t) => match C.iter t with | some l => .ext (.tup l) | none => .bad "iterator"
  | .mapEntry t _ _ =>
    match C.P.underlying t with
    | some (.map _ e) => match shapeT C.P e with | some s => .ext (.tup [s, .int .i64]) | none => .bad "shape"
    | _ => .bad "shape"
  | _ => r
def isLocRead (P : Program) (st : St) (ops : Array Oper) (i : Nat) : Bool :=
  match ops[i]? with
  | some o =>
    match o.op with
    | .load t x =>
      match st.ev x with
      | .loc b off => match st.blks[b]? with | some blk => (partS P t blk.cells off).isSome | none => false
      | _ => false
    | _ => false
  | none => false
def pendMask (P : Program) (st : St) (ops : Array Oper) (p : Nat) : Nat := if p = 0 then 0 else (List.range ops.size).foldl (fun m i => if p.testBit i && !isLocRead P st ops i then m ||| 2 ^ i else m) 0
def pendC (ops : Array Oper) (p : Nat) : Option Oper := (ops[Nat.log2 p]?).bind fun o => if p = 2 ^ Nat.log2 p then match o.op with | .lookup .. => some o | .load .. => some o | _ => none else none
def isEntry : Op → Bool | .mapEntry .. => true | _ => false
def isAppend : Op → Bool | .call { callee := .builtin .append, .. } => true | _ => false
def doRes (P : Program) (next : Task → St → Tree) (st : St) (ops : Array Oper) (o : Oper) (fr : Bool) (p : Nat) (again then_ : Task) (ev : Operand → SV) (g : BT) (r : Res) : Tree :=
  if kd o.op = .pure ∨ (kd o.op = .load ∧ fr = false) then
    match r with
    | .val x => next then_ (st.put o.dst (if g = .lit true then x else .mkGrd g x))
    | .split c => splitT next st again c
    | .bad why => .bad (why ++ " " ++ o.pos)
    | .chk c x => sureT next st ops o again g (if c = .lit true then next then_ (st.put o.dst x) else .chk c (next then_ (st.put o.dst x)))
    | .cases i l => sureT next st ops o again g (.chk (.cmp .leq (.lit 0) i) (.chk (.cmp .lss i (.lit l.length)) (casesT next st o then_ i 0 l)))
    | .load i off sh agg => sureT next st ops o again g (if fr = true then .bad ("free " ++ o.pos) else scT st (.load i off sh st.blks
      (next then_ ({ st with nv := (Sh.freshs sh st.nv).2 }.put o.dst (if agg = true then .agg (Sh.freshs sh st.nv).1 else (Sh.freshs sh st.nv).1.headD .junk)))))
    | .ext sh => sureT next st ops o again g (if fr = true then .bad ("free " ++ o.pos) else scT st (firmT (o.op.operands.toList.map ev) (
      if XOp.known o.op = true then .extp ⟨XOp.norm o.op, o.type, o.op.operands.toList.map ev⟩ sh st.blks (letT next st o then_ sh) else .bad ("ext " ++ o.pos))))
    | _ => .bad ("kind " ++ o.pos)
  else if kd o.op = .alloc then
    match r with
    | .bad why => .bad (why ++ " " ++ o.pos)
    | .alloc b x => sureT next st ops o again g (scT st (if SV.scs st.blks.length st.nv b.cells = true then .alloc (next then_ ({ st with blks := st.blks ++ [b] }.put o.dst (x.sv st.blks.length))) else .bad "scope"))
    | .allocc t n cs => sureT next st ops o again g (scT st (.allocc t cs (next then_ ({ st with nv := st.nv + 1 }.put o.dst (match n with | none => .ptr st.nv (.lit 0) | some (l, c) => .sl st.nv (.lit 0) (.lit l) (.lit c))))))
    | .makev e bytes l c => sureT next st ops o again g (scT st (.makev e bytes l c (letT next st o then_ .sl)))
    | .allocb t n => sureT next st ops o again g (scT st (.allocb t (n.map (·.2)) (next then_ ({ st with nv := st.nv + 1 }.put o.dst (match n with | none => .ptr st.nv (.lit 0) | some (l, c) => .sl st.nv (.lit 0) (.lit l) (.lit c))))))
    | _ => .bad ("kind " ++ o.pos)
  else if kd o.op = .eff then
    match r with
    | .bad why => .bad (why ++ " " ++ o.pos)
    | .upd b off cs => sureT next st ops o again g (scT st (if p ≠ 0 ∧ okKeep P st ops p b = false then
        (match farPtrs P st ops p b with
        | some xs => .apart xs st.blks (next then_ ({ st with blks := st.blks.modify b fun q => { q with cells := putAt q.cells off cs } }.put o.dst .undef))
        | none => .bad ("a store beside others " ++ o.pos))
      else next then_ ({ st with blks := st.blks.modify b fun q => { q with cells := putAt q.cells off cs } }.put o.dst .undef)))
    | .store i off cs => sureT next st ops o again g (scT st (.store (pendMask P st ops p != 0) i off cs st.blks (next then_ (st.put o.dst .undef))))
    | .call f args sh => sureT next st ops o again g (scT st (firmT args (.call (pendMask P st ops p != 0) f args sh st.blks (letT next st o then_ sh))))
    | .callv f args sh => sureT next st ops o again g (scT st (firmT (f :: args) (.callv (pendMask P st ops p != 0) f args sh st.blks (letT next st o then_ sh))))
    | .ext sh => sureT next st ops o again g (scT st (firmT (o.op.operands.toList.map ev) (
      if XOp.known o.op = true then
        if XOp.unit o.op = true then .extu (pendMask P st ops p != 0) ⟨XOp.norm o.op, o.type, o.op.operands.toList.map ev⟩ st.blks (next then_ (st.put o.dst .undef))
        else if (isEntry o.op || (isAppend o.op && (pendC ops (pendMask P st ops p)).isSome)) = true ∧ pendMask P st ops p ≠ 0 then
          match pendC ops (pendMask P st ops p) with
          | some q => firmT (q.op.operands.toList.map ev) (.exk ⟨XOp.norm o.op, o.type, o.op.operands.toList.map ev⟩ sh st.blks ⟨XOp.norm q.op, q.type, q.op.operands.toList.map ev⟩ (letT next st o then_ sh))
          | none => .bad ("a map is written beside reads " ++ o.pos)
        else .ext (pendMask P st ops p != 0) ⟨XOp.norm o.op, o.type, o.op.operands.toList.map ev⟩ sh st.blks (letT next st o then_ sh)
      else .bad ("ext " ++ o.pos))))
    | .nxt shs => sureT next st ops o again g (scT st (firmT (o.op.operands.toList.map ev) (
      if XOp.known o.op = true then .nxt (pendMask P st ops p != 0) ⟨XOp.norm o.op, o.type, o.op.operands.toList.map ev⟩ shs st.blks (next then_ ({ st with nv := (Sh.freshs shs st.nv).2 }.put o.dst (.tup (.bool (.lit true) :: (Sh.freshs shs st.nv).1)))) (next then_ (st.put o.dst (.tup [.bool (.lit false)])))
      else .bad ("ext " ++ o.pos))))
    | _ => .bad ("kind " ++ o.pos)
  else .bad ("kind " ++ o.pos)
def junkTmps (h : St) : St := { h with tmps := h.tmps.map fun _ => .junk }
def Code.jkey : Code → Nat
  | .cond _ a _ => Code.key a
  | .block id _ => 100000 + id
  | .region id _ _ => 200000 + id
  | _ => 0
def SV.plain : SV → Bool
  | .bool (.lit _) | .bool (.var _) => true
  | .bool _ | .grd .. => false
  | _ => true
def joinT (mask : Nat) (t : BT) : Nat → List SV → List SV → List SV
  | i, x :: l, y :: l' => (if mask.testBit i || ((substFn t true y).same y && (substFn t false y).same y) then x else .junk) :: joinT mask t (i + 1) l l'
  | _, l, _ => l
def plainT (mask : Nat) : Nat → List SV → List SV
  | _, [] => []
  | i, x :: l => (if x.plain || mask.testBit i then x else .junk) :: plainT mask (i + 1) l
def joinHead (st : St) (c : Code) (tm : List Nat) (h : St) : St :=
  match c with
  | .cond o _ _ =>
    match st.ev o with
    | .bool t => { h with tmps := joinT (maskOf (tm ++ Code.dsts c)) t 0 h.tmps st.tmps }
    | _ => h
  | _ => { h with tmps := plainT (maskOf tm) 0 h.tmps }
def SV.isLit : SV → Bool | .bool (.lit _) => true | _ => false
def Cfg.dead (C : Cfg) : Nat := ((C.ann.find? fun x => x.join).map (·.dead)).getD 0
def junkDead (C : Cfg) (h : St) : St := if C.dead = 0 then h else { h with tmps := junkT C.dead 0 h.tmps }
def liveAnn (C : Cfg) (a : LoopAnn) : LoopAnn := if C.dead = 0 then a else { a with tmps := a.tmps.filter fun x => !C.dead.testBit x.1 }
def joinAnn (C : Cfg) (st : St) (c : Code) : LoopAnn :=
  let a := liveAnn C (autoAnn st c)
  match C.ann.find? fun x => x.join && x.key == Code.jkey c with
  | some b => { a with tmps := a.tmps ++ b.tmps.filter fun x => !(a.tmps.map (·.1)).contains x.1 }
  | none => a
def joinAt (C : Cfg) (st : St) (c : Code) : Bool := C.joins.contains (Code.jkey c) && match c with | .cond o _ _ => !(st.ev o).isLit | .block .. => true | .region .. => true | _ => false
def setTmps : List Nat → List SV → List SV → List SV
  | p :: ps, x :: xs, t => setTmps ps xs (t.set p x)
  | _, _, t => t
def doOp (C : Cfg) (next : Task → St → Tree) (st : St) (ops : Array Oper) (o : Oper) (fr : Bool) (p : Nat) (again then_ : Task) : Tree :=
  match guardOf st ops o with
  | none =>
    match guardBy st ops o with
    | some d => splitT next st again d
    | none => .bad "guard"
  | some g =>
    if g = .lit false then next then_ (st.put o.dst .undef) else
    doRes C.P next st ops o fr p again then_ (fun x => (st.ev x).under g) g (Res.iter C o (Res.big C.big o.dst (stepOp C.P st (fun x => (st.ev x).under g) o)))
def go (C : Cfg) : Nat → Task → List K → St → Tree
  | 0, _, _, _ => .bad "fuel"
  | n + 1, task, k, st =>
    match task with
    | .code c =>
      if joinAt C st c then
        let ann := joinAnn C st c
        let tm := ann.tmps.map (·.1)
        let cl := ann.cells.map fun (b, o, _) => (b, o)
        let h := junkDead C (joinHead st c tm (headSt st (Code.dsts c) ann))
        let lvl := loopLvl k
        let shs := ann.tmps.map (·.2) ++ ann.cells.map (·.2.2)
        if h.blks.length == st.blks.length && h.nv == (Sh.freshs shs st.nv).2 then
          .join lvl shs h.blks (go { C with joins := C.joins.filter (· != Code.jkey c) } n (.code c) (.loop lvl h st.nv shs tm cl :: k) st) (go C n (.exit .normal) k h)
        else .bad "join"
      else go C n (.body c) k st
    | .body c =>
      match c with
      | .skip => go C n (.exit .normal) k st
      | .region _ ops false => if okSeq ops then go C n (.lst ops ((List.range ops.size).map fun i => (i, false, 0))) k st else .bad "okSeq"
      | .region _ ops true =>
        let l := canon ops (befOf ops)
        if okOrder ops (befOf ops) l then go C n (.lst ops l) k st else .bad "order"
      | .seq a b => go C n (.code a) (.seq b :: k) st
      | .cond c a b =>
        match st.ev c with
        | .bool (.lit true) => go C n (.code a) k st
        | .bool (.lit false) => go C n (.code b) k st
        | .bool t => .ite t (go C n (.code a) k (st.subst t true)) (go C n (.code b) k (st.subst t false))
        | _ => .bad "cond"
      | .block id b => go C n (.code b) (.block id :: k) st
      | .loop b =>
        let ann := (C.ann.find? fun x => !x.join && x.key == Code.key b).getD (liveAnn C (autoAnn st b))
        let tm := ann.tmps.map (·.1)
        let cl := ann.cells.map fun (b, o, _) => (b, o)
        let h := junkDead C (headSt st (Code.dsts b) ann)
        let lvl := loopLvl k
        let shs := ann.tmps.map (·.2) ++ ann.cells.map (·.2.2)
        if fitsHead st h st.nv shs tm cl && h.blks.length == st.blks.length && h.nv == (Sh.freshs shs st.nv).2 && scBlks h.nv h.blks then .loop lvl shs (valsAt st tm cl) st.blks h.blks (go C n (.code b) (.loop lvl h st.nv shs tm cl :: k) h) else .bad "head"
      | .rangeFunc f ps a b =>
        let ann := (C.ann.find? fun x => !x.join && x.key == Code.key b).getD (autoAnn st b)
        let psh := ps.toList.map fun p => ((ann.tmps.find? (·.1 == p)).map (·.2)).getD ((parShOf C.P (Code.opers a ++ Code.opers b) p).getD (.int .i64))
        let cl := ann.cells.map fun (b, o, _) => (b, o)
        let shs := ann.cells.map (·.2.2)
        let h0 := headSt st [] { ann with tmps := [] }
        let h := junkTmps h0
        let pf := Sh.freshs psh h.nv
        let es := (Code.leaves b).eraseDups
        let hb : St := { tmps := setTmps ps.toList pf.1 st.tmps, blks := h.blks, nv := pf.2 }
        let st' : St := { tmps := st.tmps, blks := h.blks, nv := h.nv + 1 }
        if C.res.isSome && fitsHead st h st.nv shs [] cl && h.blks.length == st.blks.length && h.nv == (Sh.freshs shs st.nv).2 && scSt st && scBlks h.nv h.blks && (st.ev f).firm then
          .range (st.ev f) psh shs (valsAt st [] cl) st.blks h.blks (go { C with res := none } n (.code a) [.start b es h st.nv shs cl] hb)
            (es.foldr (fun e t => .ite (.cmp .eql (.var h.nv) (.lit e.code)) (go C n (.exit e) k st') t) (go C n (.exit .normal) k st'))
        else .bad "range"
      | .exit id => go C n (.exit (.exit id)) k st
      | .ret => go C n (.exit .ret) k st
      | _ => .bad "code"
    | .exit e =>
      match k with
      | [] => retTree C.P C.res e st
      | .seq c :: k => if e = .normal then go C n (.code c) k st else go C n (.exit e) k st
      | .block id :: k => if e = .exit id then go C n (.exit .normal) k st else go C n (.exit e) k st
      | .loop lvl h nv shs tm cl :: k =>
        if e = .normal then
          if fitsHead st h nv shs tm cl then .again lvl h.blks.length shs (valsAt st tm cl) st.blks else .bad "again"
        else go C n (.exit e) k st
      | .start b es h nv shs cl :: _ => if e = .normal ∧ C.res = none then go C n (.code b) [.round es h nv shs cl] st else .bad "start"
      | .round es h nv shs cl :: _ =>
        if (e = .normal ∨ e ∈ es) ∧ fitsHead st h nv shs [] cl = true then .leave e.code h.blks.length shs (valsAt st [] cl) st.blks else .bad "leave"
    | .lst ops l =>
      match l with
      | [] => go C n (.exit .normal) k st
      | (i, fr, p) :: l =>
        match ops[i]? with
        | some o => doOp C (fun t st => go C n t k st) st ops o fr p (.lst ops ((i, fr, p) :: l)) (.lst ops l)
        | none => .bad "number"
def fnTree (P : Program) (f : Func) (args : List Sh) (ann : List LoopAnn) (fuel : Nat) : Tree :=
  let r := Sh.freshs args 0
  match f.body with
  | none => .bad "no body"
  | some c => go { P, res := some f.results.toList, ann, joins := (ann.filter (·.join)).map (·.key) } fuel (.code c) [] { tmps := r.1 ++ List.replicate (f.ntmps - r.1.length) .undef, blks := [], nv := r.2 }
def FnIs (P : Program) (f : FuncId) (shs : List Sh) (t : Tree) : Prop := ∃ fn ann fuel, P.funcs[f]? = some fn ∧ fnTree P fn shs ann fuel = t
end Go.Sy
