/- One operation that leaves memory alone: its result on D. -/
import Derived.Test.YtmgoekfgdgejiaaDoorVmEq
import Derived.Laws.Slices
import Derived.Laws.Build
set_option linter.unusedVariables false
set_option linter.unusedSimpArgs false
namespace Go.Vm

def vInt (op : BinOp) (k : IntKind) (a b : Int) : Option D :=
  match op with
  | .add => some (.int k (k.wrap (a + b)))
  | .sub => some (.int k (k.wrap (a - b)))
  | .mul => some (.int k (k.wrap (a * b)))
  | .quo => if b = 0 then none else some (.int k (k.wrap (a.tdiv b)))
  | .rem => if b = 0 then none else some (.int k (a.tmod b))
  | .and => some (.int k (bits .and k a b))
  | .or => some (.int k (bits .or k a b))
  | .xor => some (.int k (bits .xor k a b))
  | .andNot => some (.int k (bits .andNot k a b))
  | .eql => some (.bool (a == b))
  | .neq => some (.bool (a != b))
  | .lss => some (.bool (decide (a < b)))
  | .leq => some (.bool (decide (a ≤ b)))
  | .gtr => some (.bool (decide (a > b)))
  | .geq => some (.bool (decide (a ≥ b)))
  | _ => none

def vStr (op : BinOp) (x y : ByteArray) : Option D :=
  match op with
  | .add => if x.size + y.size ≤ 9223372036854775807 then some (.str (x ++ y)) else none
  | .eql => some (.bool (x.toList == y.toList))
  | .neq => some (.bool !(x.toList == y.toList))
  | .lss => some (.bool (Op.bytesLess x.toList y.toList))
  | .leq => some (.bool (Op.bytesLess x.toList y.toList || x.toList == y.toList))
  | .gtr => some (.bool !(Op.bytesLess x.toList y.toList || x.toList == y.toList))
  | .geq => some (.bool !(Op.bytesLess x.toList y.toList))
  | _ => none

/-- No two nil interface values, no structs: nothing is asked ahead of '=='. -/
def noGuard (c : Bool) : D → D → Bool
  | .int _ _, .int _ _ | .str _, .str _ | .bool _, _ | .nptr, _ | .ref _, _ | .nsl, _ | .sl .., _ | .nfn, _ | .fn .., _ | .ifc _ _, _ => true
  | _, .nptr | _, .ifc _ _ => true
  | .nif, .nif => c
  | _, _ => false

def guardOk (P : Program) (c : Bool) (t : TypeId) (x y : D) : Bool :=
  match x, y with
  | .agg _, .agg _ => !P.eqGuardType P.depth t
  | _, _ => noGuard c x y

def vBin (P : Program) (σ : Store) (c : Bool) (op : BinOp) (t : TypeId) (x y : D) : Option D :=
  match x, y with
  | .int k a, .int k' b => match op with
    | .shl => if 0 ≤ b then some (.int k (k.wrap (a * 2 ^ (min b.toNat k.bits)))) else none
    | .shr => if 0 ≤ b then some (.int k (a.fdiv (2 ^ (min b.toNat k.bits)))) else none
    | _ => if k = k' then vInt op k a b else none
  | .str a, .str b => vStr op a b
  | x, y => match op with
    | .eql => if guardOk P c t x y then (eqD P σ 20 t x y).map .bool else none
    | .neq => if guardOk P c t x y then (eqD P σ 20 t x y).map (fun b => .bool !b) else none
    | _ => none

def isConstB : Operand → Bool
  | .const _ => true
  | _ => false

def vUn (op : UnOp) (x : D) : Option D :=
  match op, x with
  | .neg, .int k n => some (.int k (k.wrap (0 - n)))
  | .not, .bool b => some (.bool !b)
  | .xor, .int k n => some (.int k (bits .xor k (if k.signed then -1 else k.max) n))
  | _, _ => none

def vConv (P : Program) (s t : TypeId) (x : D) : Option D :=
  match x with
  | .int _ n => match P.underlying s, P.underlying t with
    | some _, some (.int k) => some (.int k (k.wrap n))
    | _, _ => none
  | .str b => match P.underlying s, P.underlying t with
    | some _, some .string => some (.str b)
    | _, _ => none
  | _ => none

def fieldOf (P : Program) (t : TypeId) (f : Nat) : Option Field :=
  match P.underlying t with
  | some (.struct fs) => fs[f]?
  | _ => none

/-- A field's place and type. -/
def fieldOT (P : Program) (t : TypeId) (f : Nat) : Option (Nat × TypeId) := (fieldOf P t f).map fun f => (f.offset, f.type)

def vFieldAddr (P : Program) (σ : Store) (t : TypeId) (x : D) (f : Nat) : Option D :=
  match fieldOT P t f with
  | some (off, u) => match szOf P u with
    | some (_ + 1) => ptrAdd σ x off
    | _ => none
  | none => none

def vField (P : Program) (t : TypeId) (x : D) (f : Nat) : Option D :=
  match fieldOT P t f, x with
  | some (off, u), .agg cs => partAtD P u cs off
  | _, _ => none

def elemT (P : Program) (t : TypeId) : Option TypeId :=
  match P.underlying t with
  | some (.slice e) => some e
  | _ => none
def arrT (P : Program) (t : TypeId) : Option (Nat × TypeId) :=
  match P.underlying t with
  | some (.array n e) => some (n, e)
  | _ => none

def vIndexAddr (P : Program) (σ : Store) (t : TypeId) (x i : D) : Option D :=
  match i with
  | .int _ i => match elemT P t with
    | some e => match szOf P e with
      | some s => match x with
        | .sl _ cs n => if 0 ≤ i ∧ i < n ∧ i.toNat * s < cs.length then some (.ref (cs.drop (i.toNat * s))) else none
        | .ms l v off n _ | .mr l v off n => if okRef σ l v ∧ 0 ≤ i ∧ i < n then some (.ptr l v (off + i.toNat * s)) else none
        | _ => none
      | none => none
    | none => match arrT P t with
      | some (n, e) => match szOf P e with
        | some s => if 0 ≤ i ∧ i < n then ptrAdd σ x (i.toNat * s) else none
        | none => none
      | none => none
  | _ => none

def vIndex (P : Program) (t : TypeId) (x i : D) : Option D :=
  match i with
  | .int _ i => match x with
    | .str s => match P.underlying t with
      | some .string => if 0 ≤ i ∧ i < s.size then some (.int .u8 (s.data.toList.getD i.toNat 0).toNat) else none
      | _ => none
    | .agg cs => match arrT P t with
      | some (n, e) => match szOf P e with
        | some s => if 0 ≤ i ∧ i < n then partAtD P e cs (i.toNat * s) else none
        | none => none
      | none => none
    | _ => none
  | _ => none

def dInt : Option D → Option (Option Int)
  | none => some none
  | some (.int _ n) => some (some n)
  | _ => none

/-- The bounds of 's[lo:hi:max]'. 'cap': at least 'len'. -/
def bnds (len : Nat) (lo hi mx : Option Int) : Option (Nat × Nat) :=
  if 0 ≤ lo.getD 0 ∧ lo.getD 0 ≤ hi.getD len ∧ hi.getD len ≤ len then
    if (match mx with | some m => hi.isSome && decide (hi.getD len ≤ m) && decide (m ≤ len) | none => true) then some ((lo.getD 0).toNat, (hi.getD len).toNat) else none
  else none

/-- Is the capacity of 's[lo:hi:max]' used up? -/
def newFull (full : Bool) (mx : Option Int) (h n : Nat) : Bool :=
  match mx with
  | some m => decide (m = h)
  | none => full && decide (h = n)

def vSlice (P : Program) (σ : Store) (t : TypeId) (x : D) (lo hi mx : Option Int) : Option D :=
  match P.underlying t with
  | some .string => match x, mx with
    | .str s, none => match bnds s.size lo hi none with
      | some (l, h) => some (.str (s.extract l h))
      | none => none
    | _, _ => none
  | some (.slice e) => match szOf P e with
    | some s => match x with
      | .sl full cs n => match bnds n lo hi mx with
        | some (l, h) => if (decide (h = l) || (decide (h * s ≤ cs.length) && decide (0 < s))) then
            some (.sl (newFull full mx h n) ((cs.drop (l * s)).take ((h - l) * s)) (h - l)) else none
        | none => none
      | .ms ob v off n _ | .mr ob v off n => match bnds n lo hi mx with
        | some (l, h) => if okRef σ ob v then (if h = l then some (.sl false [] 0) else some (.mr ob v (off + l * s) (h - l))) else none
        | none => none
      | .nsl => match bnds 0 lo hi mx with
        | some _ => some .nsl
        | none => none
      | _ => none
    | none => none
  | some (.array n e) => match szOf P e with
    | some s => match x with
      | .ref cs => match bnds n lo hi mx with
        | some (l, h) => if n * s ≤ cs.length ∧ l < h ∧ 0 < s then some (.sl false ((cs.drop (l * s)).take ((h - l) * s)) (h - l)) else none
        | none => none
      | .ptr ob v off => match bnds n lo hi mx with
        | some (l, h) => if okRef σ ob v ∧ l < h then some (.mr ob v (off + l * s) (h - l)) else none
        | none => none
      | _ => none
    | none => none
  | _ => none

def vLoad (P : Program) (σ : Store) (t : TypeId) (x : D) : Option D :=
  match cellsOfPtr σ x with
  | some cs => cs.head?.bind fun _ => partD P t cs
  | none => none

def vLen (P : Program) (t : TypeId) (x : D) : Option D :=
  match P.underlying t with
  | some (.array n _) => some (.int .i64 n)
  | some .string => match x with
    | .str s => some (.int .i64 s.size)
    | _ => none
  | some (.slice _) => match x with
    | .sl _ _ n => some (.int .i64 n)
    | .nsl => some (.int .i64 0)
    | _ => none
  | some (.pointer u) => match arrT P u with
    | some (n, _) => some (.int .i64 n)
    | none => none
  | _ => none

/-- 'len' of a slice into the store. -/
def vLenM (P : Program) (σ : Store) (t : TypeId) (x : D) : Option D :=
  match elemT P t, x with
  | some _, .ms l v _ n _ | some _, .mr l v _ n => if okRef σ l v then some (.int .i64 n) else none
  | _, _ => none

def vNil (σ : Store) (x : D) : Option D :=
  match x with
  | .ref cs => some (.ref cs)
  | .ptr l v off => match cellsOfPtr σ (.ptr l v off) with
    | some cs => cs.head?.bind fun _ => some (.ptr l v off)
    | none => none
  | .ifc t d => some (.ifc t d)
  | .fn (.func f) a b => some (.fn (.func f) a b)
  | _ => none

def vAssert (P : Program) (x : D) (xT t : TypeId) (ok : Bool) : Option D :=
  let holds (d : D) : Option D := some (if ok then .tup [d, .bool true] else d)
  let fails : Option D := if ok then match P.info? t with
    | some i => match i.zero.bind cst with
      | some z => some (.tup [z, .bool false])
      | none => none
    | none => none else none
  match P.underlying t with
  | some (.interface want) => match x with
    | .nif => fails
    | .ifc u d => match P.info? u with
      | some i => match Instr.missingMethod want i.methods with
        | none => holds (.ifc u d)
        | some _ => fails
      | none => none
    | _ => none
  | some _ => match x with
    | .nif => fails
    | .ifc u d => if u = t then holds d else fails
    | _ => none
  | none => none

def vMinMax (mx : Bool) : D → List D → Option D
  | .int k a, [] => some (.int k a)
  | .int k a, .int _ b :: l => vMinMax mx (.int k (if mx then (if b > a then b else a) else (if b < a then b else a))) l
  | _, _ => none

def evs (G : Globals) (s : List D) : List Operand → Option (List D)
  | [] => some []
  | x :: xs => match ev G s x, evs G s xs with
    | some d, some ds => some (d :: ds)
    | _, _ => none

def evo (G : Globals) (s : List D) : Option Operand → Option (Option Int)
  | none => some none
  | some x => match ev G s x with
    | some (.int _ n) => some (some n)
    | _ => none

/-- The result of an operation that only computes, or reads. -/
def vpure (P : Program) (G : Globals) (s : List D) (σ : Store) (op : Op) : Option D :=
  match op with
  | .move x | .assign x => ev G s x
  | .pick c a b => match ev G s c, ev G s a, ev G s b with
    | some (.bool c), some a, some b => some (if c then a else b)
    | _, _, _ => none
  | .binOp op t x y _ => match ev G s x, ev G s y with
    | some a, some b => vBin P σ (isConstB x || isConstB y) op t a b
    | _, _ => none
  | .unOp op _ x => (ev G s x).bind (vUn op)
  | .convert a b x => (ev G s x).bind (vConv P a b)
  | .load t x => (ev G s x).bind (vLoad P σ t)
  | .nilCheck x => (ev G s x).bind (vNil σ)
  | .fieldAddr t x f => (ev G s x).bind (vFieldAddr P σ t · f)
  | .field t x f => (ev G s x).bind (vField P t · f)
  | .indexAddr t x i => match ev G s x, ev G s i with
    | some x, some i => vIndexAddr P σ t x i
    | _, _ => none
  | .index t x i => match ev G s x, ev G s i with
    | some x, some i => vIndex P t x i
    | _, _ => none
  | .slice t x lo hi mx => match ev G s x, evo G s lo, evo G s hi, evo G s mx with
    | some x, some lo, some hi, some mx => vSlice P σ t x lo hi mx
    | _, _, _, _ => none
  | .extract x i => match ev G s x with
    | some (.tup ds) => ds[i]?
    | _ => none
  | .makeInterface t x => match P.underlying t, ev G s x with
    | some (.interface _), _ => none
    | some _, some d => some (.ifc t d)
    | _, _ => none
  | .makeFunc f xs cs => match evs G s xs.toList, evs G s cs.toList with
    | some xs, some cs => some (.fn f xs cs)
    | _, _ => none
  | .typeAssert x a b ok => (ev G s x).bind (vAssert P · a b ok)
  | .call { callee := .builtin b, args, argTypes } => match b, evs G s args.toList with
    | .len, some [x] => match argTypes[0]? with
      | some t => match vLen P t x with
        | some d => some d
        | none => vLenM P σ t x
      | none => none
    | .min, some (.int k a :: ds) => vMinMax false (.int k a) ds
    | .max, some (.int k a :: ds) => vMinMax true (.int k a) ds
    | _, _ => none
  | _ => none
end Go.Vm
