/-
  Abs, part 23: how typed things lie in cells.
-/
import Derived.Test.YtjjhmldeammecaaA22
namespace Go.Abs
open Go

/-- A text that fits into memory. -/
structure Str where
  b : ByteArray
  h : b.size ≤ top
theorem Str.ext' {x y : Str} (h : x.b = y.b) : x = y := by cases x; cases y; simp_all
instance : DecidableEq Str := fun x y => decidable_of_iff (x.b = y.b) ⟨Str.ext', fun h => by rw [h]⟩
abbrev Str.lit (a : List UInt8) (h : a.length ≤ top) : Str := ⟨⟨a.toArray⟩, h⟩
theorem sEq_iff {x y : Str} : sEq x.b y.b = true ↔ x = y := by
  rw [← sBeq, ba_beq]
  exact ⟨Str.ext', fun h => by rw [h]⟩
theorem sEq_dec (x y : Str) : sEq x.b y.b = decide (x = y) := by
  by_cases h : x = y
  · rw [sEq_iff.2 h]; simp [h]
  · have : sEq x.b y.b = false := by rw [← Bool.not_eq_true, sEq_iff]; exact h
    rw [this]; simp [h]

def cI (x : Int) : List PV := [vi x]
def cK (k : IntKind) (x : Int) : List PV := [.c (.int k x)]
def cB (x : Bool) : List PV := [vb x]
def cS (x : Str) : List PV := [vs x.b]
def cL {α : Type} (f : α → List PV) (l : List α) : List PV := [.sl (l.map f)]
def pI (x : Int) : PV := vi x
def pK (k : IntKind) (x : Int) : PV := .c (.int k x)
def pB (x : Bool) : PV := vb x
def pS (x : Str) : PV := vs x.b
def pA {α : Type} (f : α → List PV) (x : α) : PV := .agg (f x)
def pL {α : Type} (f : α → List PV) (l : List α) : PV := .sl (l.map f)
def kS (x : Str) : Value := .string x.b
def kI (x : Int) : Value := .int .i64 x
def kK (k : IntKind) (x : Int) : Value := .int k x
def kB (x : Bool) : Value := .bool x
def kEqS (x y : Str) : Bool := sEq x.b y.b
def kEqI (x y : Int) : Bool := x == y
def kEqB (x y : Bool) : Bool := x == y
def cM {κ β : Type} (f : κ → Value) (g : β → PV) (e : κ × β) : PV × PV := (.c (f e.1), g e.2)
theorem flatS (x y : Str) : flatEq .str (kS x) (kS y) = some (kEqS x y) := by simp [flatEq, kS, kEqS, sBeq]
theorem flatI (x y : Int) : flatEq .int (kI x) (kI y) = some (kEqI x y) := by simp [flatEq, kI, kEqI]
theorem flatK (k : IntKind) (x y : Int) : flatEq .int (kK k x) (kK k y) = some (kEqI x y) := by simp [flatEq, kK, kEqI]
theorem flatB (x y : Bool) : flatEq .bool (kB x) (kB y) = some (kEqB x y) := by simp [flatEq, kB, kEqB]
section
variable {β : Type} {g : β → PV}
theorem findS (k : Str) (m : List (Str × β)) : mfind .str (.c (.string k.b)) (m.map (cM kS g)) = some ((mget kEqS k m).map g) := mfind_typed (ek := kS) flatS k m
theorem findI (k : Int) (m : List (Int × β)) : mfind .int (.c (.int .i64 k)) (m.map (cM kI g)) = some ((mget kEqI k m).map g) := mfind_typed (ek := kI) flatI k m
theorem putS (k : Str) (v : β) (m : List (Str × β)) : mput .str (.c (.string k.b)) (g v) (m.map (cM kS g)) = some ((mset kEqS k v m).map (cM kS g)) := mput_typed (ek := kS) flatS k v m
theorem putI (k : Int) (v : β) (m : List (Int × β)) : mput .int (.c (.int .i64 k)) (g v) (m.map (cM kI g)) = some ((mset kEqI k v m).map (cM kI g)) := mput_typed (ek := kI) flatI k v m
end
section
variable {κ : Type} {f : κ → Value}
theorem putSB (k : Str) (v : Bool) (m : List (Str × Bool)) : mput .str (.c (.string k.b)) (.c (.bool v)) (m.map (cM kS pB)) = some ((mset kEqS k v m).map (cM kS pB)) := putS (g := pB) k v m
theorem putSI (k : Str) (v : Int) (m : List (Str × Int)) : mput .str (.c (.string k.b)) (.c (.int .i64 v)) (m.map (cM kS pI)) = some ((mset kEqS k v m).map (cM kS pI)) := putS (g := pI) k v m
theorem putSS (k : Str) (v : Str) (m : List (Str × Str)) : mput .str (.c (.string k.b)) (.c (.string v.b)) (m.map (cM kS pS)) = some ((mset kEqS k v m).map (cM kS pS)) := putS (g := pS) k v m
theorem putIB (k : Int) (v : Bool) (m : List (Int × Bool)) : mput .int (.c (.int .i64 k)) (.c (.bool v)) (m.map (cM kI pB)) = some ((mset kEqI k v m).map (cM kI pB)) := putI (g := pB) k v m
theorem getD_map {α : Type} (h : α → PV) (o : Option α) (z : α) : (o.map h).getD (h z) = h (o.getD z) := by cases o <;> rfl
theorem getDB (o : Option Bool) (z : Bool) : (o.map pB).getD (.c (.bool z)) = .c (.bool (o.getD z)) := getD_map pB o z
theorem getDI (o : Option Int) (z : Int) : (o.map pI).getD (.c (.int .i64 z)) = .c (.int .i64 (o.getD z)) := getD_map pI o z
end
theorem isSome_map {α β : Type} (f : α → β) (o : Option α) : (o.map f).isSome = o.isSome := by cases o <;> rfl

/-! ### Rows -/
structure Wide {α : Type} (n : Nat) (c : α → List PV) : Prop where
  len : ∀ x, (c x).length = n
  one : ∀ x, (c x).all PV.single = true
  nz : ∀ x, nzPs (c x) = c x
theorem Wide.rows {α : Type} {n : Nat} {c : α → List PV} (h : Wide n c) (l : List α) : (∀ r ∈ l.map c, r.length = n ∧ r.all PV.single = true) = True := by
  apply eq_true
  intro r hr
  obtain ⟨x, _, rfl⟩ := List.mem_map.1 hr
  exact ⟨h.len x, h.one x⟩
theorem Wide.rowl {α : Type} {n : Nat} {c : α → List PV} (h : Wide n c) (l : List α) : (∀ r ∈ l.map c, r.length = n) = True := by
  apply eq_true
  intro r hr
  obtain ⟨x, _, rfl⟩ := List.mem_map.1 hr
  exact h.len x
theorem Wide.nzs {α : Type} {n : Nat} {c : α → List PV} (h : Wide n c) : ∀ (l : List α), nzPss (l.map c) = l.map c
  | [] => rfl
  | x :: l => by simp only [List.map_cons, nzPss, h.nz x, h.nzs l]
theorem wI : Wide 1 cI := ⟨fun _ => rfl, fun _ => rfl, fun _ => rfl⟩
theorem wK (k : IntKind) : Wide 1 (cK k) := ⟨fun _ => rfl, fun _ => rfl, fun _ => rfl⟩
theorem wB : Wide 1 cB := ⟨fun _ => rfl, fun _ => rfl, fun _ => rfl⟩
theorem wS : Wide 1 cS := ⟨fun _ => rfl, fun _ => rfl, fun _ => rfl⟩
theorem wL {α : Type} {n : Nat} {c : α → List PV} (h : Wide n c) : Wide 1 (cL c) := ⟨fun _ => rfl, fun _ => rfl, fun x => by simp only [cL, nzPs, nzP, h.nzs]⟩
theorem rI (l : List Int) : (∀ r ∈ l.map cI, r.length = 1 ∧ r.all PV.single = true) = True := wI.rows l
theorem rB (l : List Bool) : (∀ r ∈ l.map cB, r.length = 1 ∧ r.all PV.single = true) = True := wB.rows l
theorem rS (l : List Str) : (∀ r ∈ l.map cS, r.length = 1 ∧ r.all PV.single = true) = True := wS.rows l
theorem rI1 (l : List Int) : (∀ r ∈ l.map cI, r.length = 1) = True := wI.rowl l
theorem rB1 (l : List Bool) : (∀ r ∈ l.map cB, r.length = 1) = True := wB.rowl l
theorem rS1 (l : List Str) : (∀ r ∈ l.map cS, r.length = 1) = True := wS.rowl l
theorem nI (l : List Int) : nzPss (l.map cI) = l.map cI := wI.nzs l
theorem nB (l : List Bool) : nzPss (l.map cB) = l.map cB := wB.nzs l
theorem nS (l : List Str) : nzPss (l.map cS) = l.map cS := wS.nzs l

theorem nzM {κ β : Type} {f : κ → Value} {g : β → PV} (hf : ∀ k, nzP (.c (f k)) = .c (f k)) (hg : ∀ v, nzP (g v) = g v) : ∀ (m : List (κ × β)), nzPm (m.map (cM f g)) = m.map (cM f g)
  | [] => rfl
  | e :: m => by simp only [List.map_cons, nzPm, cM, hf, hg, nzM hf hg m]
theorem nkS (k : Str) : nzP (.c (kS k)) = .c (kS k) := rfl
theorem nkI (k : Int) : nzP (.c (kI k)) = .c (kI k) := rfl
theorem nkB (k : Bool) : nzP (.c (kB k)) = .c (kB k) := rfl
theorem npS (k : Str) : nzP (pS k) = pS k := rfl
theorem npI (k : Int) : nzP (pI k) = pI k := rfl
theorem npB (k : Bool) : nzP (pB k) = pB k := rfl
theorem npA {α : Type} {n : Nat} {c : α → List PV} (h : Wide n c) (x : α) : nzP (pA c x) = pA c x := by simp only [pA, nzP, h.nz]
theorem npL {α : Type} {n : Nat} {c : α → List PV} (h : Wide n c) (x : List α) : nzP (pL c x) = pL c x := by simp only [pL, nzP, h.nzs]
theorem nSB (m : List (Str × Bool)) : nzPm (m.map (cM kS pB)) = m.map (cM kS pB) := nzM nkS npB m
theorem nSI (m : List (Str × Int)) : nzPm (m.map (cM kS pI)) = m.map (cM kS pI) := nzM nkS npI m
theorem nIB (m : List (Int × Bool)) : nzPm (m.map (cM kI pB)) = m.map (cM kI pB) := nzM nkI npB m

variable {P : Program}
/-- What is known of an own slice because it lies in memory. -/
theorem aw_factH {nt : Nat} {rc : RCode} {Q : RExit → St → Prop} {st : St} (n : Nat) {rows : List (List PV)} (he : st.H.get n = some (.slice rows)) (h : rows.length ≤ lim → AWr P nt rc Q st) : AWr P nt rc Q st := by
  intro c hc g w a h1 h2 h3
  obtain ⟨_, ho, _⟩ := h3.h.obj n _ he
  simp only [ORep] at ho
  exact h ho.1 c hc g w a h1 h2 h3

theorem belowL_app (k : Nat) : ∀ (a b : List AV), belowL k (a ++ b) = (belowL k a ∧ belowL k b)
  | [], b => by simp [belowL]
  | x :: a, b => by simp only [List.cons_append, belowL, belowL_app k a b, and_assoc]
theorem frzL_p (q : Nat → Bool) (H : Heap) : ∀ (l : List PV), frzL q H (l.map AV.p) = l.map AV.p
  | [] => rfl
  | x :: l => by simp only [List.map_cons, frzL, AV.frz, frzL_p q H l]
theorem belowL_p (k : Nat) : ∀ (l : List PV), belowL k (l.map AV.p) = True
  | [] => by simp [belowL]
  | x :: l => by simp only [List.map_cons, belowL, belowA, belowL_p k l, and_self]
theorem gAnd_t (o : Option Bool) : gAnd true o = o := rfl
theorem gAnd_f (o : Option Bool) : gAnd false o = some false := rfl
theorem gOr_t (o : Option Bool) : gOr true o = some true := rfl
theorem gOr_f (o : Option Bool) : gOr false o = o := rfl
theorem gbS : type_of% (And.intro gAnd_t (And.intro gAnd_f (And.intro gOr_t (And.intro gOr_f (And.intro Bool.true_and (And.intro Bool.false_and (And.intro Bool.true_or (And.intro Bool.false_or (And.intro @Bool.not_true (@Bool.not_false)))))))))) :=
  And.intro gAnd_t (And.intro gAnd_f (And.intro gOr_t (And.intro gOr_f (And.intro Bool.true_and (And.intro Bool.false_and (And.intro Bool.true_or (And.intro Bool.false_or (And.intro @Bool.not_true (@Bool.not_false)))))))))

attribute [go_sem] cI cK cB cS cL pI pK pB pS pA pL findS findI putS putI putSB putSI putSS putIB getDB getDI isSome_map rI rB rS rI1 rB1 rS1 nI nB nS nSB nSI nIB belowL_app frzL_p belowL_p allP_map sEq_eq sLt_eq sBeq List.getElem?_map
end Go.Abs
