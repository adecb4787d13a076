/-
  Abs, part 1: abstract values, what they stand for in a world, states, and how worlds go on. No program is in sight here.
-/
import Derived.Below
import Derived.Calls
import Derived.Laws.Sem
namespace Go.Abs
open Go

/-- Pure data: flat values, structs (their cells), read-only slices (rows of cells), pointers to cells that are only read, maps that are only read. -/
inductive PV where
  | c (v : Value)
  | agg (cs : List PV)
  | sl (rows : List (List PV))
  | ptr (cells : List PV)
  | mp (es : List (PV × PV))

/-- What a temporary or a cell may hold. -/
inductive AV where
  | p (x : PV)
  | agg (cs : List AV)
  | tup (cs : List AV)
  | bp (n off : Nat)
  | ep (n i j len : Nat)
  | os (n off len : Nat)
  | mp (n : Nat)
  | fn (f : Fn) (first cap : List AV)
  | ifc (t : TypeId) (x : AV)
  | junk

/-- A block that this run owns. -/
inductive AObj where
  | cells (cs : List AV)
  | slice (rows : List (List PV))
  | map (es : List (PV × PV))

abbrev Heap := List (Nat × AObj)
def Heap.get : Heap → Nat → Option AObj
  | [], _ => none
  | (k, o) :: H, n => if k = n then some o else Heap.get H n
def Heap.set : Heap → Nat → AObj → Heap
  | [], _, _ => []
  | (k, o) :: H, n, x => if k = n then (k, x) :: H else (k, o) :: Heap.set H n x
def Heap.del : Heap → Nat → Heap
  | [], _ => []
  | (k, o) :: H, n => if k = n then Heap.del H n else (k, o) :: Heap.del H n

abbrev Env := List (Nat × AV)
def Env.get : Env → Nat → AV
  | [], _ => .junk
  | (k, x) :: E, n => if k = n then x else Env.get E n

/-- Where an owned block lies: its number; a slice's row i (from 'drop' on) at offset 'base + (i - drop) * w'; rows below 'cap' have room. -/
structure Loc where
  blk : Option Nat
  base : Nat
  drop : Nat
  cap : Nat
  w : Nat

structure G where
  ρ : Nat → Loc
  fz : Nat → Option Obj

/-- The room that is asked of a growing thing. -/
def lim : Nat := 140737488355328
/-- No length is greater. -/
def top : Nat := 9223372036854775807

/-- 'vals' stand, a row behind a row, in 'cs' from 'off' on, each row 'w' cells wide. -/
def RowsAt (cs : Array Value) (off w : Nat) (vals : List (List Value)) : Prop :=
  ∀ i r, vals[i]? = some r → r.length = w ∧ ∀ j x, r[j]? = some x → cs[off + i * w + j]? = some x

def CellsAt (cs : Array Value) (off : Nat) (vals : List Value) : Prop := ∀ j x, vals[j]? = some x → cs[off + j]? = some x

mutual
def PRep (fz : Nat → Option Obj) : PV → Value → Prop
  | .c x, v => v = x
  | .agg cs, v => ∃ vs : Array Value, v = .agg vs ∧ PRepL fz cs vs.toList
  | .sl rows, v => rows.length ≤ top ∧
      ((rows = [] ∧ ∃ ba, v = .slice ba 0 0) ∨
       ∃ b off cap w cs t fr vals, v = .slice (some ⟨b, off, none⟩) rows.length cap ∧ rows.length ≤ cap ∧ fz b = some (.cells cs t fr) ∧ PRepLL fz rows vals ∧ RowsAt cs off w vals)
  | .ptr cells, v => ∃ b off cs t fr vals, v = .pointer (some ⟨b, off, none⟩) ∧ fz b = some (.cells cs t fr) ∧ PRepL fz cells vals ∧ CellsAt cs off vals
  | .mp es, v => ∃ b ms clock, v = .map (some b) ∧ fz b = some (.map ms clock) ∧ PRepM fz es (ms.toList.map fun m => (m.key, m.val))
def PRepL (fz : Nat → Option Obj) : List PV → List Value → Prop
  | [], vs => vs = []
  | x :: xs, vs => ∃ v r, vs = v :: r ∧ PRep fz x v ∧ PRepL fz xs r
def PRepLL (fz : Nat → Option Obj) : List (List PV) → List (List Value) → Prop
  | [], vs => vs = []
  | x :: xs, vs => ∃ v r, vs = v :: r ∧ PRepL fz x v ∧ PRepLL fz xs r
def PRepM (fz : Nat → Option Obj) : List (PV × PV) → List (Value × Value) → Prop
  | [], vs => vs = []
  | (x, y) :: xs, vs => ∃ a b r, vs = (a, b) :: r ∧ PRep fz x a ∧ PRep fz y b ∧ PRepM fz xs r
end

/-- What an up-to-date handle of an owned slice is. -/
def OsRep (l : Loc) (off len : Nat) (v : Value) : Prop :=
  ∃ a cap, v = .slice a len cap ∧ len ≤ cap ∧ (cap = 0 ∨ (∃ b, l.blk = some b ∧ l.drop ≤ off ∧ off + cap = l.cap ∧ a = some ⟨b, l.base + (off - l.drop) * l.w, none⟩))

mutual
def ARep (g : G) (H : Heap) (k : Nat) : AV → Value → Prop
  | .p x, v => PRep g.fz x v
  | .agg cs, v => ∃ vs : Array Value, v = .agg vs ∧ ARepL g H k cs vs.toList
  | .tup cs, v => ∃ vs : Array Value, v = .tuple vs ∧ ARepL g H k cs vs.toList
  | .bp n off, v => n < k ∧ v.oneCell' = true ∧ ∀ cs, Heap.get H n = some (.cells cs) → ∃ b, (g.ρ n).blk = some b ∧ v = .pointer (some ⟨b, off, none⟩)
  | .ep n i j len, v => n < k ∧ v.oneCell' = true ∧ ∀ rows, Heap.get H n = some (.slice rows) → len ≤ rows.length ∧ (len = rows.length → i < len ∧ (g.ρ n).drop ≤ i ∧ ∃ b, (g.ρ n).blk = some b ∧ v = .pointer (some ⟨b, (g.ρ n).base + (i - (g.ρ n).drop) * (g.ρ n).w + j, none⟩))
  | .os n off len, v => n < k ∧ v.oneCell' = true ∧ ∀ rows, Heap.get H n = some (.slice rows) → off + len ≤ rows.length ∧ (off + len = rows.length → OsRep (g.ρ n) off len v)
  | .mp n, v => n < k ∧ v.oneCell' = true ∧ ∀ es, Heap.get H n = some (.map es) → ∃ b, (g.ρ n).blk = some b ∧ v = .map (some b)
  | .fn f first cap, v => ∃ a b : Array Value, v = .func f a b ∧ ARepL g H k first a.toList ∧ ARepL g H k cap b.toList
  | .ifc t x, v => ∃ y, v = .iface t y ∧ ARep g H k x y
  | .junk, _ => True
def ARepL (g : G) (H : Heap) (k : Nat) : List AV → List Value → Prop
  | [], vs => vs = []
  | x :: xs, vs => ∃ v r, vs = v :: r ∧ ARep g H k x v ∧ ARepL g H k xs r
end

/-- The entries of a map. -/
def MRep (fz : Nat → Option Obj) (clock : Nat) : List (PV × PV) → List MapEntry → Prop
  | [], ms => ms = []
  | e :: es, ms => ∃ m r, ms = m :: r ∧ PRep fz e.1 m.key ∧ PRep fz e.2 m.val ∧ m.born < clock ∧ MRep fz clock es r

/-- What an owned block is in the world. -/
def ORep (g : G) (H : Heap) (k : Nat) (n : Nat) (w : World) : AObj → Prop
  | .cells cs => ∃ b vs t, (g.ρ n).blk = some b ∧ w.heap[b]? = some (.cells vs t (0, 0)) ∧ ARepL g H k cs vs.toList
  | .slice rows => rows.length ≤ lim ∧ (g.ρ n).drop ≤ rows.length ∧ ((g.ρ n).drop < rows.length → (g.ρ n).blk ≠ none) ∧ (∀ r ∈ rows, r.length = (g.ρ n).w) ∧ (rows = [] → (g.ρ n).blk = none) ∧ (∀ b, (g.ρ n).blk = some b →
      ∃ cs t vals, w.heap[b]? = some (.cells cs t (0, 0)) ∧ rows.length ≤ (g.ρ n).cap ∧ PRepLL g.fz (rows.drop (g.ρ n).drop) vals ∧ RowsAt cs (g.ρ n).base (g.ρ n).w vals ∧
        (g.ρ n).base + ((g.ρ n).cap - (g.ρ n).drop) * (g.ρ n).w ≤ cs.size)
  | .map es => ∃ b ms clock, (g.ρ n).blk = some b ∧ w.heap[b]? = some (.map ms clock) ∧
      MRep g.fz clock es ms.toList ∧ (ms.toList.map (·.born)).Nodup

structure St where
  env : Env
  H : Heap
  k : Nat

/-- The owned blocks 'H' (names below 'k') lie in the world 'w'. -/
structure SimH (g : G) (w : World) (H : Heap) (k : Nat) : Prop where
  obj : ∀ n o, H.get n = some o → n < k ∧ ORep g H k n w o ∧ ∀ b, (g.ρ n).blk = some b → g.fz b = none ∧ b < w.heap.size
  inj : ∀ n m b, H.get n ≠ none → H.get m ≠ none → (g.ρ n).blk = some b → (g.ρ m).blk = some b → n = m
  fz : ∀ b o, g.fz b = some o → w.heap[b]? = some o

/-- The state 'st' stands for the temporaries 'tm' and the world 'w'. -/
structure Sim (g : G) (w : World) (st : St) (tm : Array Value) : Prop where
  env : ∀ t, ARep g st.H st.k (st.env.get t) (tm.getD t undef)
  h : SimH g w st.H st.k

/-- Two stages of one owned block: its handles stay right. -/
def Compat (l l' : Loc) : AObj → AObj → Prop
  | .cells _, .cells _ => l' = l
  | .slice rows, .slice rows' => l' = l ∧ rows'.length = rows.length ∨ rows.length < rows'.length
  | .map _, .map _ => l' = l
  | _, _ => False

/-- How a run goes on that owns 'H' (names below 'k'). -/
structure Evo (g : G) (w : World) (H : Heap) (k : Nat) (g' : G) (w' : World) (H' : Heap) (k' : Nat) : Prop where
  kle : k ≤ k'
  os : w'.os = w.os
  tape : w'.tape = w.tape
  output : w'.output = w.output
  size : w.heap.size ≤ w'.heap.size
  fz : ∀ b o, g.fz b = some o → g'.fz b = some o
  fzNew : ∀ b o, g'.fz b = some o → g.fz b = some o ∨ (∃ n, H.get n ≠ none ∧ (g.ρ n).blk = some b) ∨ w.heap.size ≤ b
  frame : ∀ b, b < w.heap.size → (∀ n, H.get n ≠ none → (g.ρ n).blk ≠ some b) → w'.heap[b]? = w.heap[b]?
  names : ∀ n, n < k → H.get n = none → g'.ρ n = g.ρ n
  dom : ∀ n, n < k → H.get n = none → H'.get n = none
  compat : ∀ n o o', n < k → H.get n = some o → H'.get n = some o' → Compat (g.ρ n) (g'.ρ n) o o'
  blks : ∀ n b, H'.get n ≠ none → (g'.ρ n).blk = some b → (∃ m, H.get m ≠ none ∧ (g.ρ m).blk = some b) ∨ w.heap.size ≤ b
end Go.Abs
