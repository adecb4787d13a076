/-
  Abs, part 3: operations with their numbers resolved; how code is brought into this form; what an operation does to an abstract state.
-/
import Derived.Test.YtjjhmldeammecaaA2
namespace Go.Abs
open Go

inductive RX where
  | t (n : Nat)
  | k (x : PV)
  | f (fn : FuncId)

/-- What a flat cell is, to '=='. -/
inductive FK where
  | int
  | str
  | bool

inductive ROp where
  | mv (x : RX)
  | pick (c a b : RX)
  | ibin (op : BinOp) (k : IntKind) (x y : RX)
  | shift (op : BinOp) (k : IntKind) (x y : RX)
  | sbin (op : BinOp) (x y : RX)
  | bbin (neg : Bool) (x y : RX)
  | eqv (neg : Bool) (ks : List FK) (x y : RX)
  | not (x : RX)
  | neg (k : IntKind) (x : RX)
  | conv (k : IntKind) (x : RX)
  | scv (x : RX)
  | load (n : Nat) (agg : Bool) (a : RX)
  | store (n : Nat) (a v : RX)
  | faddr (off : Nat) (x : RX)
  | fld (off n : Nat) (agg : Bool) (x : RX)
  | iaddr (w : Nat) (x i : RX)
  | aaddr (len w : Nat) (x i : RX)
  | sidx (x i : RX)
  | ssl (x : RX) (lo hi : Option RX)
  | lsl (w : Nat) (x : RX) (lo hi : Option RX)
  | alloc (zero : List PV)
  | box (n : Nat) (v : RX)
  | build (zero : List PV) (parts : List (Nat × Nat × RX))
  | bslice (w : Nat) (zero : List PV) (len : Nat) (parts : List (Nat × RX))
  | mslice (w bytes : Nat) (zero : List PV) (len cap : RX)
  | mmap
  | look (q : FK) (zero : PV) (ok : Bool) (m key : RX)
  | mupd (q : FK) (m key v : RX)
  | mlen (m : RX)
  | app (w bytes : Nat) (zero : List PV) (s x : RX)
  | len (x : RX)
  | slen (x : RX)
  | min (l : List RX)
  | max (l : List RX)
  | ext (i : Nat) (x : RX)
  | mkf (fn : Fn) (first cap : List RX)
  | nilck (x : RX)
  | snil (neg : Bool) (x : RX)
  | call (f : FuncId) (args : List RX)
  | callv (x : RX) (args : List RX)

structure LOp where
  dst : Option Nat
  g : Option (Nat × Bool)
  op : ROp

inductive RCode where
  | skip
  | region (draw : Bool) (ops : List LOp)
  | seq (a b : RCode)
  | cond (c : RX) (a b : RCode)
  | block (id : Nat) (a : RCode)
  | loop (a : RCode)
  | exit (id : Nat)
  | ret

/-! ### Values of the program's text -/
def flat : Value → Bool
  | .bool _ | .int _ _ | .string _ | .nilFunc | .nilIface | .pointer none | .map none | .slice none 0 0 => true
  | _ => false
def PV.ofFlat (v : Value) : Option PV := if flat v then some (.c v) else none
/-- The slice nil itself (an empty slice may have room behind it). -/
def PV.nil : PV := .c (.slice none 0 0)
def PV.ofValue : Value → Option PV
  | .agg cs => (cs.toList.mapM PV.ofFlat).map .agg
  | v => PV.ofFlat v
def PV.ofZero (v : Value) : Option (List PV) := v.cells.toList.mapM PV.ofFlat

/-! ### Lowering -/
def lowX : Operand → Option RX
  | .tmp t => some (.t t)
  | .const v => (PV.ofValue v).map .k
  | .func f => some (.f f)
  | .global _ => none

def isAggT (P : Program) (t : TypeId) : Option Bool :=
  (P.underlying t).map fun | .struct _ | .array _ _ => true | _ => false
def sizeT (P : Program) (t : TypeId) : Option Nat := (P.info? t).map (·.size)
def zeroV (P : Program) (t : TypeId) : Option PV := ((P.info? t).bind (·.zero)).bind PV.ofValue
def zeroT (P : Program) (t : TypeId) : Option (List PV) := ((P.info? t).bind (·.zero)).bind PV.ofZero

def fkT (P : Program) (t : TypeId) : Option FK :=
  match P.underlying t with
  | some (.int _) => some .int
  | some .string => some .str
  | some .bool => some .bool
  | _ => none
/-- The kinds of a struct's fields, if each is flat, in order, one cell each. -/
def flatFields (P : Program) (fs : List Field) (off : Nat) : Option (List FK) :=
  match fs with
  | [] => some []
  | f :: r => if f.offset = off ∧ f.name ≠ "_" ∧ sizeT P f.type = some 1 then
      match fkT P f.type, flatFields P r (off + 1) with
      | some q, some qs => some (q :: qs)
      | _, _ => none
    else none
def eqable (P : Program) (t : TypeId) : Option (List FK) :=
  match P.underlying t with
  | some (.struct fs) => if P.stoodInHeld t = false ∧ P.eqGuardType P.depth t = false then flatFields P fs.toList 0 else none
  | _ => none

def lowBuiltin (P : Program) (b : Builtin) (args : List Operand) (argTypes : Array TypeId) : Option ROp :=
  match b with
  | .len => match args, argTypes[0]? with
    | [x], some t => match P.underlying t with
      | some .string => (lowX x).map .slen
      | some (.slice _) => (lowX x).map .len
      | some (.map _ _) => (lowX x).map .mlen
      | _ => none
    | _, _ => none
  | .append => match args, argTypes[0]?, argTypes[1]? with
    | [s, x], some t, some u => match P.underlying t, P.underlying u with
      | some (.slice e), some (.slice _) => do pure (.app (← sizeT P e) (← (P.info? e).map (·.bytes)) (← zeroT P e) (← lowX s) (← lowX x))
      | _, _ => none
    | _, _, _ => none
  | .min => (args.mapM lowX).map .min
  | .max => (args.mapM lowX).map .max
  | _ => none

def lowOp (P : Program) (op : Op) : Option ROp :=
  match op with
  | .move x | .assign x => (lowX x).map .mv
  | .pick c a b => do pure (.pick (← lowX c) (← lowX a) (← lowX b))
  | .binOp op t x y _ => do
    let x ← lowX x; let y ← lowX y
    match P.underlying t with
    | some (.int k) => (match op with | .add | .sub | .mul | .quo | .rem | .and | .or | .xor | .eql | .neq | .lss | .leq | .gtr | .geq => some (.ibin op k x y) | .shl | .shr => some (.shift op k x y) | _ => none)
    | some .string => (match op with | .add | .eql | .neq | .lss | .leq | .gtr | .geq => some (.sbin op x y) | _ => none)
    | some .bool => (match op with | .eql => some (.bbin false x y) | .neq => some (.bbin true x y) | _ => none)
    | some (.slice _) => (match op, y with | .eql, .k (.c (.slice none 0 0)) => some (.snil false x) | .neq, .k (.c (.slice none 0 0)) => some (.snil true x) | _, _ => none)
    | some (.struct _) => match eqable P t with
      | some ks => (match op with | .eql => some (.eqv false ks x y) | .neq => some (.eqv true ks x y) | _ => none)
      | none => none
    | _ => none
  | .unOp .not _ x => (lowX x).map .not
  | .unOp .neg t x => do
    match P.underlying t with
    | some (.int k) => pure (.neg k (← lowX x))
    | _ => none
  | .convert s d x => do
    let x ← lowX x
    match P.underlying s, P.underlying d with
    | some (.int _), some (.int k) => pure (.conv k x)
    | some .string, some .string => pure (.scv x)
    | _, _ => none
  | .load t a => do pure (.load (← sizeT P t) (← isAggT P t) (← lowX a))
  | .store t a v => do pure (.store (← sizeT P t) (← lowX a) (← lowX v))
  | .fieldAddr s x i => do
    match P.underlying s with
    | some (.struct fs) => match fs[i]? with
      | some f => if sizeT P f.type == some 0 || sizeT P f.type == none then none else pure (.faddr f.offset (← lowX x))
      | none => none
    | _ => none
  | .field s x i => do
    match P.underlying s with
    | some (.struct fs) => match fs[i]? with
      | some f => pure (.fld f.offset (← sizeT P f.type) (← isAggT P f.type) (← lowX x))
      | none => none
    | _ => none
  | .indexAddr t x i => do
    match P.underlying t with
    | some (.slice e) => pure (.iaddr (← sizeT P e) (← lowX x) (← lowX i))
    | some (.array n e) => pure (.aaddr n (← sizeT P e) (← lowX x) (← lowX i))
    | _ => none
  | .index t x i => do
    match P.underlying t with
    | some .string => pure (.sidx (← lowX x) (← lowX i))
    | _ => none
  | .slice t x lo hi none => do
    let low (o : Option Operand) : Option (Option RX) := match o with | none => some none | some y => (lowX y).map some
    match P.underlying t with
    | some .string => pure (.ssl (← lowX x) (← low lo) (← low hi))
    | some (.slice e) => pure (.lsl (← sizeT P e) (← lowX x) (← low lo) (← low hi))
    | _ => none
  | .alloc t => (zeroT P t).map .alloc
  | .box t v => do pure (.box (← sizeT P t) (← lowX v))
  | .build t parts => do
    match P.underlying t with
    | some (.struct fs) => do
      let places ← fs.toList.mapM fun f => (sizeT P f.type).map fun n => (f.offset, n)
      let ps ← parts.toList.mapM fun (i, x) => do
        let (o, n) ← places[i]?
        pure (o, n, ← lowX x)
      pure (.build (← zeroT P t) ps)
    | _ => none
  | .buildSlice t n parts => do
    match P.underlying t with
    | some (.slice e) => do
      let ps ← parts.toList.mapM fun (i, x) => do pure (i, ← lowX x)
      if n > 2 ^ 24 ∨ n * (← sizeT P e) > 2 ^ 24 then none else pure (.bslice (← sizeT P e) (← zeroT P e) n ps)
    | _ => none
  | .makeSlice t l c => do
    match P.underlying t with
    | some (.slice e) => pure (.mslice (← sizeT P e) (← (P.info? e).map (·.bytes)) (← zeroT P e) (← lowX l) (← lowX c))
    | _ => none
  | .makeMap _ none => some .mmap
  | .lookup t m key ok => do
    match P.underlying t with
    | some (.map kt e) =>
      let q ← fkT P kt
      pure (.look q (← zeroV P e) ok (← lowX m) (← lowX key))
    | _ => none
  | .mapUpdate t m key v | .insert t m key v => do
    match P.underlying t with
    | some (.map kt _) =>
      pure (.mupd (← fkT P kt) (← lowX m) (← lowX key) (← lowX v))
    | _ => none
  | .extract x i => (lowX x).map (.ext i)
  | .makeFunc fn a b => do pure (.mkf fn (← a.toList.mapM lowX) (← b.toList.mapM lowX))
  | .nilCheck x => (lowX x).map .nilck
  | .call { callee := .builtin b, args, argTypes } => lowBuiltin P b args.toList argTypes
  | .call { callee := .value (.func f), args, .. } => do
    match P.funcs[f]? with
    | some fn => if fn.body.isSome && fn.name != "runtime.NumGoroutine" then pure (.call f (← args.toList.mapM lowX)) else none
    | none => none
  | .call { callee := .value x, args, .. } => do pure (.callv (← lowX x) (← args.toList.mapM lowX))
  | _ => none

def lowOper (P : Program) (nt : Nat) (ops : Array Oper) (o : Oper) : Option LOp := do
  let op ← lowOp P o.op
  if !(o.dst.all (· < nt)) then none
  match o.guard with
  | none => pure ⟨o.dst, none, op⟩
  | some (j, b) => match (ops[j]?).bind (·.dst) with
    | some d => pure ⟨o.dst, some (d, b), op⟩
    | none => none

/-! ### Regions whose order is open -/
/-- What an operation looks at. -/
def ROp.xs : ROp → List RX
  | .mv x => [x]
  | .pick c a b => [c, a, b]
  | .ibin _ _ x y => [x, y]
  | .shift _ _ x y => [x, y]
  | .sbin _ x y => [x, y]
  | .bbin _ x y => [x, y]
  | .eqv _ _ x y => [x, y]
  | .not x => [x]
  | .neg _ x => [x]
  | .conv _ x => [x]
  | .scv x => [x]
  | .load _ _ a => [a]
  | .store _ a v => [a, v]
  | .faddr _ x => [x]
  | .fld _ _ _ x => [x]
  | .iaddr _ x i => [x, i]
  | .aaddr _ _ x i => [x, i]
  | .sidx x i => [x, i]
  | .ssl x lo hi => x :: (lo.toList ++ hi.toList)
  | .lsl _ x lo hi => x :: (lo.toList ++ hi.toList)
  | .alloc _ => []
  | .box _ v => [v]
  | .build _ parts => parts.map (·.2.2)
  | .bslice _ _ _ parts => parts.map (·.2)
  | .mslice _ _ _ l c => [l, c]
  | .mmap => []
  | .look _ _ _ m key => [m, key]
  | .mupd _ m key v => [m, key, v]
  | .mlen m => [m]
  | .app _ _ _ s x => [s, x]
  | .len x => [x]
  | .slen x => [x]
  | .min l => l
  | .max l => l
  | .ext _ x => [x]
  | .mkf _ a b => a ++ b
  | .nilck x => [x]
  | .snil _ x => [x]
  | .call _ args => args
  | .callv x args => x :: args
/-- It changes what is owned. -/
def ROp.moves : ROp → Bool
  | .store _ _ _ | .alloc _ | .box _ _ | .bslice _ _ _ _ | .mslice _ _ _ _ _ | .mmap | .mupd _ _ _ _ | .app _ _ _ _ _ => true
  | _ => false
/-- It neither changes nor reads what is owned. -/
def ROp.quiet : ROp → Bool
  | .mv _ | .pick _ _ _ | .ibin _ _ _ _ | .shift _ _ _ _ | .sbin _ _ _ | .bbin _ _ _ | .eqv _ _ _ _ | .not _ | .neg _ _ | .conv _ _ | .scv _ | .fld _ _ _ _ | .sidx _ _ | .ssl _ _ _ | .build _ _
  | .slen _ | .min _ | .max _ | .ext _ _ | .mkf _ _ _ => true
  | _ => false
def LOp.looks (o : LOp) : List Nat := (o.op.xs.filterMap fun | .t n => some n | _ => none) ++ (match o.g with | some (d, _) => [d] | none => [])
def LOp.apart (a b : LOp) : Bool :=
  (match a.dst with | some d => !(b.looks.contains d) && b.dst != some d | none => true) && (match b.dst with | some d => !(a.looks.contains d) | none => true) &&
  (!a.op.moves || b.op.quiet) && (!b.op.moves || a.op.quiet)
/-- For each operation those that are sure to come before it (a mask). -/
def masks : List Oper → Array Nat → Array Nat
  | [], acc => acc
  | o :: r, acc => masks r (acc.push (o.after.foldl (fun m e => if Region.binds .any e then m ||| 2 ^ e.on ||| acc.getD e.on 0 else m) 0))
def okDraw (P : Program) (ops : Array Oper) (ls : List LOp) : Bool :=
  let M := masks ops.toList #[]
  P.follows .mixedOrders && (List.range ops.size).all fun i =>
    (match ops[i]? with | some o => o.after.all fun e => !Region.binds .any e || decide (e.on < i) | none => true) &&
    (List.range i).all fun j => (M.getD i 0).testBit j || (match ls[j]?, ls[i]? with | some a, some b => a.apart b | _, _ => true)

def lower (P : Program) (nt : Nat) : Code → Option RCode
  | .skip => some .skip
  | .region _ ops draw => (ops.toList.mapM (lowOper P nt ops)).bind fun ls => if draw && !okDraw P ops ls then none else some (.region draw ls)
  | .seq a b => do pure (.seq (← lower P nt a) (← lower P nt b))
  | .cond c a b => do pure (.cond (← lowX c) (← lower P nt a) (← lower P nt b))
  | .block id a => do pure (.block id (← lower P nt a))
  | .loop a => do pure (.loop (← lower P nt a))
  | .exit id => some (.exit id)
  | .ret => some .ret
  | _ => none

/-! ### What an operation does to a state -/
def St.ev (s : St) : RX → AV
  | .t n => s.env.get n
  | .k x => .p x
  | .f fn => .fn (.func fn) [] []

def allP : List AV → Option (List PV)
  | [] => some []
  | .p x :: r => (allP r).map (x :: ·)
  | _ :: _ => none
/-- A struct out of its cells. -/
def AV.ofCells (cs : List AV) : AV := match allP cs with | some ps => .p (.agg ps) | none => .agg cs

def cut (n : Nat) (agg : Bool) (l : List AV) : Option AV :=
  if agg then (if n ≤ l.length then some (AV.ofCells (l.take n)) else none) else l[0]?
def cutP (n : Nat) (agg : Bool) (l : List PV) : Option AV :=
  if agg then (if n ≤ l.length then some (.p (.agg (l.take n))) else none) else (l[0]?).map .p

def PV.single : PV → Bool
  | .c v => flat v
  | .sl _ | .ptr _ | .mp _ => true
  | .agg _ => false
/-- The cells of a value that is stored. -/
def AV.cells : AV → Option (List AV)
  | .p (.agg cs) => if cs.all PV.single then some (cs.map .p) else none
  | .p x => if x.single then some [.p x] else none
  | .agg cs => if cs.all (fun | .agg _ | .tup _ | .junk => false | .p x => x.single | _ => true) then some cs else none
  | .tup _ => none
  | .junk => none
  | x => some [x]

def ibinV (op : BinOp) (k : IntKind) (a b : Int) : Option Value :=
  match op with
  | .add => some (.int k (k.wrap (a + b)))
  | .sub => some (.int k (k.wrap (a - b)))
  | .mul => some (.int k (k.wrap (a * b)))
  | .quo => if b = 0 then none else some (.int k (k.wrap (a.tdiv b)))
  | .rem => if b = 0 then none else some (.int k (a.tmod b))
  | .and => some (.int k (k.wrap (BitVec.ofInt k.bits a &&& BitVec.ofInt k.bits b).toNat))
  | .or => some (.int k (k.wrap (BitVec.ofInt k.bits a ||| BitVec.ofInt k.bits b).toNat))
  | .xor => some (.int k (k.wrap (BitVec.ofInt k.bits a ^^^ BitVec.ofInt k.bits b).toNat))
  | .eql => some (.bool (a == b))
  | .neq => some (.bool (a != b))
  | .lss => some (.bool (a < b))
  | .leq => some (.bool (a ≤ b))
  | .gtr => some (.bool (a > b))
  | .geq => some (.bool (a ≥ b))
  | _ => none

def sbinV (op : BinOp) (x y : ByteArray) : Option Value :=
  match op with
  | .add => if x.size + y.size ≤ lim then some (.string (x ++ y)) else none
  | .eql => some (.bool (x.toList == y.toList))
  | .neq => some (.bool !(x.toList == y.toList))
  | .lss => some (.bool (Op.bytesLess x.toList y.toList))
  | .leq => some (.bool (Op.bytesLess x.toList y.toList || x.toList == y.toList))
  | .gtr => some (.bool !(Op.bytesLess x.toList y.toList || x.toList == y.toList))
  | .geq => some (.bool !(Op.bytesLess x.toList y.toList))
  | _ => none

/-- '==' of two flat values. -/
def flatEq : FK → Value → Value → Option Bool
  | .int, .int k a, .int k' b => if k = k' then some (a == b) else none
  | .str, .string a, .string b => some (a == b)
  | .bool, .bool a, .bool b => some (a == b)
  | _, _, _ => none
def cellsEq : List FK → List PV → List PV → Option Bool
  | [], [], [] => some true
  | q :: qs, .c a :: r, .c b :: s => match flatEq q a b, cellsEq qs r s with
    | some x, some y => some (x && y)
    | _, _ => none
  | _, _, _ => none

/-- A map's entry. -/
def mfind (q : FK) (key : PV) : List (PV × PV) → Option (Option PV)
  | [] => some none
  | e :: r => match key, e.1 with
    | .c a, .c b => match flatEq q a b with
      | some true => some (some e.2)
      | some false => mfind q key r
      | none => none
    | _, _ => none
def mput (q : FK) (key v : PV) : List (PV × PV) → Option (List (PV × PV))
  | [] => some [(key, v)]
  | e :: r => match key, e.1 with
    | .c a, .c b => match flatEq q a b with
      | some true => some ((key, v) :: r)
      | some false => (mput q key v r).map (e :: ·)
      | none => none
    | _, _ => none

/-- The parts of a struct, laid into its zero. -/
def fillA (ev : RX → AV) : List (Nat × Nat × RX) → List AV → Option (List AV)
  | [], cs => some cs
  | (off, n, x) :: r, cs => match (ev x).cells with
    | some l => if l.length = n ∧ off + n ≤ cs.length then fillA ev r (cs.take off ++ l ++ cs.drop (off + n)) else none
    | none => none
def fillRows (ev : RX → AV) (w : Nat) : List (Nat × RX) → List (List PV) → Option (List (List PV))
  | [], rows => some rows
  | (i, x) :: r, rows => match ((ev x).cells).bind allP with
    | some l => if l.length = w ∧ i < rows.length then fillRows ev w r (rows.set i l) else none
    | none => none

def aint64 : AV → Option Int
  | .p (.c (.int .i64 n)) => some n
  | _ => none
def aint : AV → Option Int
  | .p (.c (.int _ n)) => some n
  | _ => none

/-- A bound of a slice expression. -/
def bnd (ev : RX → AV) (d : Int) (o : Option RX) : Option Int := match o with | none => some d | some y => aint (ev y)

/-- The rows of a slice that is read. -/
def rowsOf (H : Heap) : AV → Option (List (List PV))
  | .p (.sl rows) => some rows
  | .p (.c (.slice none 0 0)) => some []
  | .os n off len => match H.get n with
    | some (.slice rows) => if off + len = rows.length then some (rows.drop off) else none
    | _ => none
  | _ => none

/-- A pointer that can be used. -/
def live (H : Heap) : AV → Bool
  | .bp m _ => match H.get m with | some (.cells _) => true | _ => false
  | .ep m _ _ len => match H.get m with | some (.slice rows) => len == rows.length | _ => false
  | .p (.ptr _) => true
  | _ => false
def AV.shift (d : Nat) : AV → AV
  | .bp m o => .bp m (o + d)
  | .ep m i j len => .ep m i (j + d) len
  | .p (.ptr cells) => .p (.ptr (cells.drop d))
  | x => x

def aop (op : ROp) (ev : RX → AV) (H : Heap) (k : Nat) : Option (AV × Heap × Nat) :=
  match op with
  | .mv x => some (ev x, H, k)
  | .pick c a b => match ev c with
    | .p (.c (.bool t)) => some (if t then ev a else ev b, H, k)
    | _ => none
  | .ibin op q x y => match ev x, ev y with
    | .p (.c (.int q1 a)), .p (.c (.int q2 b)) => if q1 = q ∧ q2 = q then (ibinV op q a b).map fun v => (.p (.c v), H, k) else none
    | _, _ => none
  | .shift op q x y => match ev x, ev y with
    | .p (.c (.int q1 a)), .p (.c (.int _ b)) => if q1 = q ∧ 0 ≤ b then
        (match op with
         | .shl => some (.p (.c (.int q (q.wrap (a * 2 ^ (Nat.min b.toNat q.bits))))), H, k)
         | .shr => some (.p (.c (.int q (a.fdiv (2 ^ (Nat.min b.toNat q.bits))))), H, k)
         | _ => none) else none
    | _, _ => none
  | .sbin op x y => match ev x, ev y with
    | .p (.c (.string a)), .p (.c (.string b)) => (sbinV op a b).map fun v => (.p (.c v), H, k)
    | _, _ => none
  | .bbin neg x y => match ev x, ev y with
    | .p (.c (.bool a)), .p (.c (.bool b)) => some (.p (.c (.bool (if neg then !(a == b) else a == b))), H, k)
    | _, _ => none
  | .eqv neg ks x y => match ev x, ev y with
    | .p (.agg a), .p (.agg b) => (cellsEq ks a b).map fun v => (.p (.c (.bool (if neg then !v else v))), H, k)
    | _, _ => none
  | .not x => match ev x with
    | .p (.c (.bool a)) => some (.p (.c (.bool !a)), H, k)
    | _ => none
  | .neg q x => match ev x with
    | .p (.c (.int q1 a)) => if q1 = q then some (.p (.c (.int q (q.wrap (0 - a)))), H, k) else none
    | _ => none
  | .conv q x => match ev x with
    | .p (.c (.int _ a)) => some (.p (.c (.int q (q.wrap a))), H, k)
    | _ => none
  | .scv x => match ev x with
    | .p (.c (.string s)) => some (.p (.c (.string s)), H, k)
    | _ => none
  | .load n agg a => match ev a with
    | .bp m off => match H.get m with
      | some (.cells cs) => (cut n agg (cs.drop off)).map fun v => (v, H, k)
      | _ => none
    | .ep m i j len => match H.get m with
      | some (.slice rows) => if len = rows.length then (match rows[i]? with | some r => (cutP n agg (r.drop j)).map fun v => (v, H, k) | none => none) else none
      | _ => none
    | .p (.ptr cells) => (cutP n agg cells).map fun v => (v, H, k)
    | _ => none
  | .store n a v => match (ev v).cells with
    | some l => if l.length = n then
        match ev a with
        | .bp m off => match H.get m with
          | some (.cells cs) => if off + n ≤ cs.length then some (.junk, H.set m (.cells (cs.take off ++ l ++ cs.drop (off + n))), k) else none
          | _ => none
        | .ep m i j len => match H.get m, allP l with
          | some (.slice rows), some ps => if len = rows.length then
              (match rows[i]? with
               | some r => if j + n ≤ r.length then some (.junk, H.set m (.slice (rows.set i (r.take j ++ ps ++ r.drop (j + n)))), k) else none
               | none => none) else none
          | _, _ => none
        | _ => none
      else none
    | none => none
  | .faddr off x => if live H (ev x) then some (AV.shift off (ev x), H, k) else none
  | .fld off n agg x => match ev x with
    | .p (.agg cs) => (cutP n agg (cs.drop off)).map fun v => (v, H, k)
    | .agg cs => (cut n agg (cs.drop off)).map fun v => (v, H, k)
    | _ => none
  | .iaddr w x i => match aint (ev i) with
    | some z => if 0 ≤ z then
        match ev x with
        | .p (.sl rows) => match rows[z.toNat]? with
          | some r => if r.length = w then some (.p (.ptr r), H, k) else none
          | none => none
        | .os n off len => match H.get n with
          | some (.slice rows) => if off + len = rows.length ∧ z.toNat < len then
              match rows[off + z.toNat]? with
              | some r => if r.length = w then some (.ep n (off + z.toNat) 0 rows.length, H, k) else none
              | none => none
            else none
          | _ => none
        | _ => none
      else none
    | none => none
  | .aaddr len w x i => match aint (ev i) with
    | some z => if 0 ≤ z ∧ z.toNat < len ∧ live H (ev x) = true then some (AV.shift (z.toNat * w) (ev x), H, k) else none
    | none => none
  | .sidx x i => match ev x, aint (ev i) with
    | .p (.c (.string s)), some z => if 0 ≤ z then (s[z.toNat]?).map fun b => (.p (.c (.int .u8 b.toNat)), H, k) else none
    | _, _ => none
  | .ssl x lo hi => match ev x with
    | .p (.c (.string s)) =>
      match bnd ev 0 lo, bnd ev s.size hi with
      | some l, some h => if 0 ≤ l ∧ l ≤ h ∧ h ≤ s.size then some (.p (.c (.string (s.extract l.toNat h.toNat))), H, k) else none
      | _, _ => none
    | _ => none
  | .lsl w x lo hi => match ev x with
    | .p (.sl rows) =>
      match bnd ev 0 lo, bnd ev rows.length hi with
      | some l, some h => if 0 ≤ l ∧ l ≤ h ∧ h ≤ rows.length ∧ (∀ r ∈ rows, r.length = w) then some (.p (.sl ((rows.take h.toNat).drop l.toNat)), H, k) else none
      | _, _ => none
    | .os n off len => match H.get n, hi with
      | some (.slice rows), none =>
        match bnd ev 0 lo with
        | some l => if 0 ≤ l ∧ l ≤ len ∧ off + len = rows.length ∧ (∀ r ∈ rows, r.length = w) then some (.os n (off + l.toNat) (len - l.toNat), H, k) else none
        | none => none
      | _, _ => none
    | _ => none
  | .alloc zero => some (.bp k 0, (k, .cells (zero.map .p)) :: H, k + 1)
  | .box n v => match (ev v).cells with
    | some l => if l.length = n then some (.bp k 0, (k, .cells l) :: H, k + 1) else none
    | none => none
  | .build zero parts => (fillA ev parts (zero.map .p)).map fun cs => (AV.ofCells cs, H, k)
  | .bslice w zero len parts => if zero.length = w then (fillRows ev w parts (List.replicate len zero)).map fun rows => (.os k 0 len, (k, .slice rows) :: H, k + 1) else none
  | .mslice w bytes zero len cap => match aint (ev len), aint (ev cap) with
    | some l, some c => if l = c ∧ 0 ≤ l ∧ l * bytes ≤ lim ∧ l ≤ lim ∧ zero.length = w then some (.os k 0 l.toNat, (k, .slice (List.replicate l.toNat zero)) :: H, k + 1) else none
    | _, _ => none
  | .mmap => some (.mp k, (k, .map []) :: H, k + 1)
  | .look q zero ok m key => match ev key with
    | .p (.c kx) => match (match ev m with
        | .mp n => (match H.get n with | some (.map es) => some es | _ => none)
        | .p (.c (.map none)) => some []
        | .p (.mp es) => some es
        | _ => none) with
      | some es => match mfind q (.c kx) es with
        | some r => some (if ok then .tup [.p (r.getD zero), .p (.c (.bool r.isSome))] else .p (r.getD zero), H, k)
        | none => none
      | none => none
    | _ => none
  | .mupd q m key v => match ev m, ev key, ev v with
    | .mp n, .p (.c kx), .p x => match H.get n with
      | some (.map es) => (mput q (.c kx) x es).map fun es' => (.junk, H.set n (.map es'), k)
      | _ => none
    | _, _, _ => none
  | .mlen m => match ev m with
    | .mp n => match H.get n with
      | some (.map es) => some (.p (.c (.int .i64 es.length)), H, k)
      | _ => none
    | .p (.c (.map none)) => some (.p (.c (.int .i64 0)), H, k)
    | .p (.mp es) => some (.p (.c (.int .i64 es.length)), H, k)
    | _ => none
  | .app w bytes zero s x => match rowsOf H (ev x) with
    | some new => if zero.length = w ∧ ∀ r ∈ new, r.length = w ∧ r.all PV.single = true then
        match ev s with
        | .p (.c (.slice none 0 0)) => if new.length * bytes ≤ lim ∧ new.length ≤ lim then some (.os k 0 new.length, (k, .slice new) :: H, k + 1) else none
        | .os n off len => match H.get n with
          | some (.slice rows) => if off + len = rows.length ∧ (∀ r ∈ rows, r.length = w) ∧ (rows.length + new.length) * bytes ≤ lim ∧ rows.length + new.length ≤ lim
              then some (.os n off (len + new.length), H.set n (.slice (rows ++ new)), k) else none
          | _ => none
        | _ => none
      else none
    | none => none
  | .slen x => match ev x with
    | .p (.c (.string s)) => some (.p (.c (.int .i64 s.size)), H, k)
    | _ => none
  | .len x => match ev x with
    | .p (.sl rows) => some (.p (.c (.int .i64 rows.length)), H, k)
    | .p (.c (.slice none 0 0)) => some (.p (.c (.int .i64 0)), H, k)
    | .os n off len => match H.get n with
      | some (.slice rows) => if off + len = rows.length then some (.p (.c (.int .i64 len)), H, k) else none
      | _ => none
    | _ => none
  | .min l => match l.mapM (fun x => aint64 (ev x)) with
    | some (z :: r) => some (.p (.c (.int .i64 (r.foldl (fun a b => if b < a then b else a) z))), H, k)
    | _ => none
  | .max l => match l.mapM (fun x => aint64 (ev x)) with
    | some (z :: r) => some (.p (.c (.int .i64 (r.foldl (fun a b => if a < b then b else a) z))), H, k)
    | _ => none
  | .ext i x => match ev x with
    | .tup cs => (cs[i]?).map fun v => (v, H, k)
    | _ => none
  | .mkf f a b => some (.fn f (a.map ev) (b.map ev), H, k)
  | .nilck x => if live H (ev x) then some (ev x, H, k) else none
  | .call _ _ | .callv _ _ | .snil _ _ => none
end Go.Abs
