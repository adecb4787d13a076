/-
  Abs, part 20: the same rules in a form that is quick to walk with.
-/
import Derived.Test.YtjjhmldeammecaaA19
namespace Go.Abs
open Go

variable {P : Program}

def Env.at3 : Env → Nat → AV
  | [], _ => .junk
  | (k, x) :: E, n => match Nat.beq k n with | true => x | false => Env.at3 E n
theorem Env.get3 : ∀ (E : Env) (n : Nat), Env.get E n = Env.at3 E n := by
  intro E n
  induction E with
  | nil => rfl
  | cons a E ih =>
    obtain ⟨k, x⟩ := a
    simp only [Env.get, Env.at3]
    by_cases h : k = n
    · subst h; simp
    · have : Nat.beq k n = false := by simp only [← Bool.not_eq_true, Nat.beq_eq]; exact h
      simp [h, this, ih]
def Heap.at3 : Heap → Nat → Option AObj
  | [], _ => none
  | (k, x) :: E, n => match Nat.beq k n with | true => some x | false => Heap.at3 E n
theorem Heap.get3 : ∀ (E : Heap) (n : Nat), Heap.get E n = Heap.at3 E n := by
  intro E n
  induction E with
  | nil => rfl
  | cons a E ih =>
    obtain ⟨k, x⟩ := a
    simp only [Heap.get, Heap.at3]
    by_cases h : k = n
    · subst h; simp
    · have : Nat.beq k n = false := by simp only [← Bool.not_eq_true, Nat.beq_eq]; exact h
      simp [h, this, ih]
def Heap.set3 : Heap → Nat → AObj → Heap
  | [], _, _ => []
  | (k, o) :: H, n, x => match Nat.beq k n with | true => (k, x) :: H | false => (k, o) :: Heap.set3 H n x
theorem Heap.put3 : ∀ (E : Heap) (n : Nat) (x : AObj), Heap.set E n x = Heap.set3 E n x := by
  intro E n y
  induction E with
  | nil => rfl
  | cons a E ih =>
    obtain ⟨k, x⟩ := a
    simp only [Heap.set, Heap.set3]
    by_cases h : k = n
    · subst h; simp
    · have : Nat.beq k n = false := by simp only [← Bool.not_eq_true, Nat.beq_eq]; exact h
      simp [h, this, ih]

/-! ### Operations -/
def runK (r : Option (AV × Heap × Nat)) (K : AV → Heap → Nat → Prop) : Prop := match r with | some (v, H, k) => K v H k | none => False
theorem runK_some {v : AV} {H : Heap} {k : Nat} {K : AV → Heap → Nat → Prop} : runK (some (v, H, k)) K = K v H k := (rfl)
def goK (r : Option AV) (H : Heap) (k : Nat) (K : AV → Heap → Nat → Prop) : Prop := match r with | some v => K v H k | none => False
theorem goK_some {v : AV} {H : Heap} {k : Nat} {K : AV → Heap → Nat → Prop} : goK (some v) H k K = K v H k := (rfl)
def ibinA (op : BinOp) (q : IntKind) : AV → AV → Option AV
  | .p (.c (.int q1 a)), .p (.c (.int q2 b)) => if q1 = q ∧ q2 = q then (ibinV op q a b).map fun v => .p (.c v) else none
  | _, _ => none
theorem run_goK {r : Option AV} {st : St} {K : AV → Heap → Nat → Prop} : (match r.map (fun v => (v, st.H, st.k)) with | some (v, H, k) => K v H k | none => False) = goK r st.H st.k K := by
  cases r <;> rfl
theorem aop_ibin {op : BinOp} {q : IntKind} {x y : RX} {ev : RX → AV} {H : Heap} {k : Nat} : aop (.ibin op q x y) ev H k = (ibinA op q (ev x) (ev y)).map fun v => (v, H, k) := by
  simp only [aop]
  generalize ev x = u
  generalize ev y = v
  unfold ibinA
  split
  · rename_i q1 a q2 b
    split
    · simp only [*, and_self, if_true]
      cases ibinV op q a b <;> rfl
    · simp only [*, if_false]; rfl
  · rename_i h
    split
    · exact (h _ _ _ _ rfl rfl).elim
    · rfl
theorem vOp_mv {x : RX} {st : St} {K : AV → Heap → Nat → Prop} : vOp P (.mv x) st K = K (st.ev x) st.H st.k := (rfl)
theorem vDop_mv {x : RX} {st : St} {K : AV → Heap → Nat → Prop} : vDop P (.mv x) st K = K (st.ev x) st.H st.k := (rfl)
theorem vOp_ibin {op : BinOp} {q : IntKind} {x y : RX} {st : St} {K : AV → Heap → Nat → Prop} : vOp P (.ibin op q x y) st K = goK (ibinA op q (st.ev x) (st.ev y)) st.H st.k K := by
  simp only [vOp, aop_ibin]; exact run_goK
theorem vDop_ibin {op : BinOp} {q : IntKind} {x y : RX} {st : St} {K : AV → Heap → Nat → Prop} : vDop P (.ibin op q x y) st K = goK (ibinA op q (st.ev x) (st.ev y)) st.H st.k K := by
  simp only [vDop, aop_ibin]; exact run_goK
theorem vOp_pick (c a b : RX) {st : St} {K : AV → Heap → Nat → Prop} : vOp P (.pick c a b) st K = runK (aop (.pick c a b) st.ev st.H st.k) K := (rfl)
theorem vDop_pick (c a b : RX) {st : St} {K : AV → Heap → Nat → Prop} : vDop P (.pick c a b) st K = runK (aop (.pick c a b) st.ev st.H st.k) K := (rfl)
theorem vOp_shift (op : BinOp) (q : IntKind) (x y : RX) {st : St} {K : AV → Heap → Nat → Prop} : vOp P (.shift op q x y) st K = runK (aop (.shift op q x y) st.ev st.H st.k) K := (rfl)
theorem vDop_shift (op : BinOp) (q : IntKind) (x y : RX) {st : St} {K : AV → Heap → Nat → Prop} : vDop P (.shift op q x y) st K = runK (aop (.shift op q x y) st.ev st.H st.k) K := (rfl)
theorem vOp_sbin (op : BinOp) (x y : RX) {st : St} {K : AV → Heap → Nat → Prop} : vOp P (.sbin op x y) st K = runK (aop (.sbin op x y) st.ev st.H st.k) K := (rfl)
theorem vDop_sbin (op : BinOp) (x y : RX) {st : St} {K : AV → Heap → Nat → Prop} : vDop P (.sbin op x y) st K = runK (aop (.sbin op x y) st.ev st.H st.k) K := (rfl)
theorem vOp_bbin (n : Bool) (x y : RX) {st : St} {K : AV → Heap → Nat → Prop} : vOp P (.bbin n x y) st K = runK (aop (.bbin n x y) st.ev st.H st.k) K := (rfl)
theorem vDop_bbin (n : Bool) (x y : RX) {st : St} {K : AV → Heap → Nat → Prop} : vDop P (.bbin n x y) st K = runK (aop (.bbin n x y) st.ev st.H st.k) K := (rfl)
theorem vOp_eqv (n : Bool) (ks : List FK) (x y : RX) {st : St} {K : AV → Heap → Nat → Prop} : vOp P (.eqv n ks x y) st K = runK (aop (.eqv n ks x y) st.ev st.H st.k) K := (rfl)
theorem vDop_eqv (n : Bool) (ks : List FK) (x y : RX) {st : St} {K : AV → Heap → Nat → Prop} : vDop P (.eqv n ks x y) st K = runK (aop (.eqv n ks x y) st.ev st.H st.k) K := (rfl)
theorem vOp_not (x : RX) {st : St} {K : AV → Heap → Nat → Prop} : vOp P (.not x) st K = runK (aop (.not x) st.ev st.H st.k) K := (rfl)
theorem vDop_not (x : RX) {st : St} {K : AV → Heap → Nat → Prop} : vDop P (.not x) st K = runK (aop (.not x) st.ev st.H st.k) K := (rfl)
theorem vOp_neg (q : IntKind) (x : RX) {st : St} {K : AV → Heap → Nat → Prop} : vOp P (.neg q x) st K = runK (aop (.neg q x) st.ev st.H st.k) K := (rfl)
theorem vDop_neg (q : IntKind) (x : RX) {st : St} {K : AV → Heap → Nat → Prop} : vDop P (.neg q x) st K = runK (aop (.neg q x) st.ev st.H st.k) K := (rfl)
theorem vOp_conv (q : IntKind) (x : RX) {st : St} {K : AV → Heap → Nat → Prop} : vOp P (.conv q x) st K = runK (aop (.conv q x) st.ev st.H st.k) K := (rfl)
theorem vDop_conv (q : IntKind) (x : RX) {st : St} {K : AV → Heap → Nat → Prop} : vDop P (.conv q x) st K = runK (aop (.conv q x) st.ev st.H st.k) K := (rfl)
theorem vOp_scv (x : RX) {st : St} {K : AV → Heap → Nat → Prop} : vOp P (.scv x) st K = runK (aop (.scv x) st.ev st.H st.k) K := (rfl)
theorem vDop_scv (x : RX) {st : St} {K : AV → Heap → Nat → Prop} : vDop P (.scv x) st K = runK (aop (.scv x) st.ev st.H st.k) K := (rfl)
theorem vOp_load (n : Nat) (g : Bool) (a : RX) {st : St} {K : AV → Heap → Nat → Prop} : vOp P (.load n g a) st K = runK (aop (.load n g a) st.ev st.H st.k) K := (rfl)
theorem vDop_load (n : Nat) (g : Bool) (a : RX) {st : St} {K : AV → Heap → Nat → Prop} : vDop P (.load n g a) st K = runK (aop (.load n g a) st.ev st.H st.k) K := (rfl)
theorem vOp_store (n : Nat) (a v : RX) {st : St} {K : AV → Heap → Nat → Prop} : vOp P (.store n a v) st K = runK (aop (.store n a v) st.ev st.H st.k) K := (rfl)
theorem vDop_store (n : Nat) (a v : RX) {st : St} {K : AV → Heap → Nat → Prop} : vDop P (.store n a v) st K = runK (aop (.store n a v) st.ev st.H st.k) K := (rfl)
theorem vOp_faddr (o : Nat) (x : RX) {st : St} {K : AV → Heap → Nat → Prop} : vOp P (.faddr o x) st K = runK (aop (.faddr o x) st.ev st.H st.k) K := (rfl)
theorem vDop_faddr (o : Nat) (x : RX) {st : St} {K : AV → Heap → Nat → Prop} : vDop P (.faddr o x) st K = runK (aop (.faddr o x) st.ev st.H st.k) K := (rfl)
theorem vOp_fld (o n : Nat) (g : Bool) (x : RX) {st : St} {K : AV → Heap → Nat → Prop} : vOp P (.fld o n g x) st K = runK (aop (.fld o n g x) st.ev st.H st.k) K := (rfl)
theorem vDop_fld (o n : Nat) (g : Bool) (x : RX) {st : St} {K : AV → Heap → Nat → Prop} : vDop P (.fld o n g x) st K = runK (aop (.fld o n g x) st.ev st.H st.k) K := (rfl)
theorem vOp_iaddr (w : Nat) (x i : RX) {st : St} {K : AV → Heap → Nat → Prop} : vOp P (.iaddr w x i) st K = runK (aop (.iaddr w x i) st.ev st.H st.k) K := (rfl)
theorem vDop_iaddr (w : Nat) (x i : RX) {st : St} {K : AV → Heap → Nat → Prop} : vDop P (.iaddr w x i) st K = runK (aop (.iaddr w x i) st.ev st.H st.k) K := (rfl)
theorem vOp_aaddr (l w : Nat) (x i : RX) {st : St} {K : AV → Heap → Nat → Prop} : vOp P (.aaddr l w x i) st K = runK (aop (.aaddr l w x i) st.ev st.H st.k) K := (rfl)
theorem vDop_aaddr (l w : Nat) (x i : RX) {st : St} {K : AV → Heap → Nat → Prop} : vDop P (.aaddr l w x i) st K = runK (aop (.aaddr l w x i) st.ev st.H st.k) K := (rfl)
theorem vOp_sidx (x i : RX) {st : St} {K : AV → Heap → Nat → Prop} : vOp P (.sidx x i) st K = runK (aop (.sidx x i) st.ev st.H st.k) K := (rfl)
theorem vDop_sidx (x i : RX) {st : St} {K : AV → Heap → Nat → Prop} : vDop P (.sidx x i) st K = runK (aop (.sidx x i) st.ev st.H st.k) K := (rfl)
theorem vOp_ssl (x : RX) (lo hi : Option RX) {st : St} {K : AV → Heap → Nat → Prop} : vOp P (.ssl x lo hi) st K = runK (aop (.ssl x lo hi) st.ev st.H st.k) K := (rfl)
theorem vDop_ssl (x : RX) (lo hi : Option RX) {st : St} {K : AV → Heap → Nat → Prop} : vDop P (.ssl x lo hi) st K = runK (aop (.ssl x lo hi) st.ev st.H st.k) K := (rfl)
theorem vOp_lsl (w : Nat) (x : RX) (lo hi : Option RX) {st : St} {K : AV → Heap → Nat → Prop} : vOp P (.lsl w x lo hi) st K = runK (aop (.lsl w x lo hi) st.ev st.H st.k) K := (rfl)
theorem vDop_lsl (w : Nat) (x : RX) (lo hi : Option RX) {st : St} {K : AV → Heap → Nat → Prop} : vDop P (.lsl w x lo hi) st K = runK (aop (.lsl w x lo hi) st.ev st.H st.k) K := (rfl)
theorem vOp_alloc (z : List PV) {st : St} {K : AV → Heap → Nat → Prop} : vOp P (.alloc z) st K = runK (aop (.alloc z) st.ev st.H st.k) K := (rfl)
theorem vDop_alloc (z : List PV) {st : St} {K : AV → Heap → Nat → Prop} : vDop P (.alloc z) st K = runK (aop (.alloc z) st.ev st.H st.k) K := (rfl)
theorem vOp_box (n : Nat) (v : RX) {st : St} {K : AV → Heap → Nat → Prop} : vOp P (.box n v) st K = runK (aop (.box n v) st.ev st.H st.k) K := (rfl)
theorem vDop_box (n : Nat) (v : RX) {st : St} {K : AV → Heap → Nat → Prop} : vDop P (.box n v) st K = runK (aop (.box n v) st.ev st.H st.k) K := (rfl)
theorem vOp_build (z : List PV) (ps : List (Nat × Nat × RX)) {st : St} {K : AV → Heap → Nat → Prop} : vOp P (.build z ps) st K = runK (aop (.build z ps) st.ev st.H st.k) K := (rfl)
theorem vDop_build (z : List PV) (ps : List (Nat × Nat × RX)) {st : St} {K : AV → Heap → Nat → Prop} : vDop P (.build z ps) st K = runK (aop (.build z ps) st.ev st.H st.k) K := (rfl)
theorem vOp_bslice (w : Nat) (z : List PV) (l : Nat) (ps : List (Nat × RX)) {st : St} {K : AV → Heap → Nat → Prop} : vOp P (.bslice w z l ps) st K = runK (aop (.bslice w z l ps) st.ev st.H st.k) K := (rfl)
theorem vDop_bslice (w : Nat) (z : List PV) (l : Nat) (ps : List (Nat × RX)) {st : St} {K : AV → Heap → Nat → Prop} : vDop P (.bslice w z l ps) st K = runK (aop (.bslice w z l ps) st.ev st.H st.k) K := (rfl)
theorem vOp_mslice (w b : Nat) (z : List PV) (l c : RX) {st : St} {K : AV → Heap → Nat → Prop} : vOp P (.mslice w b z l c) st K = runK (aop (.mslice w b z l c) st.ev st.H st.k) K := (rfl)
theorem vDop_mslice (w b : Nat) (z : List PV) (l c : RX) {st : St} {K : AV → Heap → Nat → Prop} : vDop P (.mslice w b z l c) st K = runK (aop (.mslice w b z l c) st.ev st.H st.k) K := (rfl)
theorem vOp_mmap  {st : St} {K : AV → Heap → Nat → Prop} : vOp P (.mmap) st K = runK (aop (.mmap) st.ev st.H st.k) K := (rfl)
theorem vDop_mmap  {st : St} {K : AV → Heap → Nat → Prop} : vDop P (.mmap) st K = runK (aop (.mmap) st.ev st.H st.k) K := (rfl)
theorem vOp_look (q : FK) (z : PV) (ok : Bool) (m k : RX) {st : St} {K : AV → Heap → Nat → Prop} : vOp P (.look q z ok m k) st K = runK (aop (.look q z ok m k) st.ev st.H st.k) K := (rfl)
theorem vDop_look (q : FK) (z : PV) (ok : Bool) (m k : RX) {st : St} {K : AV → Heap → Nat → Prop} : vDop P (.look q z ok m k) st K = runK (aop (.look q z ok m k) st.ev st.H st.k) K := (rfl)
theorem vOp_mupd (q : FK) (m k v : RX) {st : St} {K : AV → Heap → Nat → Prop} : vOp P (.mupd q m k v) st K = runK (aop (.mupd q m k v) st.ev st.H st.k) K := (rfl)
theorem vDop_mupd (q : FK) (m k v : RX) {st : St} {K : AV → Heap → Nat → Prop} : vDop P (.mupd q m k v) st K = runK (aop (.mupd q m k v) st.ev st.H st.k) K := (rfl)
theorem vOp_mlen (m : RX) {st : St} {K : AV → Heap → Nat → Prop} : vOp P (.mlen m) st K = runK (aop (.mlen m) st.ev st.H st.k) K := (rfl)
theorem vDop_mlen (m : RX) {st : St} {K : AV → Heap → Nat → Prop} : vDop P (.mlen m) st K = runK (aop (.mlen m) st.ev st.H st.k) K := (rfl)
theorem vOp_app (w b : Nat) (z : List PV) (s x : RX) {st : St} {K : AV → Heap → Nat → Prop} : vOp P (.app w b z s x) st K = runK (aop (.app w b z s x) st.ev st.H st.k) K := (rfl)
theorem vDop_app (w b : Nat) (z : List PV) (s x : RX) {st : St} {K : AV → Heap → Nat → Prop} : vDop P (.app w b z s x) st K = runK (aop (.app w b z s x) st.ev st.H st.k) K := (rfl)
theorem vOp_len (x : RX) {st : St} {K : AV → Heap → Nat → Prop} : vOp P (.len x) st K = runK (aop (.len x) st.ev st.H st.k) K := (rfl)
theorem vDop_len (x : RX) {st : St} {K : AV → Heap → Nat → Prop} : vDop P (.len x) st K = runK (aop (.len x) st.ev st.H st.k) K := (rfl)
theorem vOp_slen (x : RX) {st : St} {K : AV → Heap → Nat → Prop} : vOp P (.slen x) st K = runK (aop (.slen x) st.ev st.H st.k) K := (rfl)
theorem vDop_slen (x : RX) {st : St} {K : AV → Heap → Nat → Prop} : vDop P (.slen x) st K = runK (aop (.slen x) st.ev st.H st.k) K := (rfl)
theorem vOp_min (l : List RX) {st : St} {K : AV → Heap → Nat → Prop} : vOp P (.min l) st K = runK (aop (.min l) st.ev st.H st.k) K := (rfl)
theorem vDop_min (l : List RX) {st : St} {K : AV → Heap → Nat → Prop} : vDop P (.min l) st K = runK (aop (.min l) st.ev st.H st.k) K := (rfl)
theorem vOp_max (l : List RX) {st : St} {K : AV → Heap → Nat → Prop} : vOp P (.max l) st K = runK (aop (.max l) st.ev st.H st.k) K := (rfl)
theorem vDop_max (l : List RX) {st : St} {K : AV → Heap → Nat → Prop} : vDop P (.max l) st K = runK (aop (.max l) st.ev st.H st.k) K := (rfl)
theorem vOp_ext (i : Nat) (x : RX) {st : St} {K : AV → Heap → Nat → Prop} : vOp P (.ext i x) st K = runK (aop (.ext i x) st.ev st.H st.k) K := (rfl)
theorem vDop_ext (i : Nat) (x : RX) {st : St} {K : AV → Heap → Nat → Prop} : vDop P (.ext i x) st K = runK (aop (.ext i x) st.ev st.H st.k) K := (rfl)
theorem vOp_mkf (f : Fn) (a b : List RX) {st : St} {K : AV → Heap → Nat → Prop} : vOp P (.mkf f a b) st K = runK (aop (.mkf f a b) st.ev st.H st.k) K := (rfl)
theorem vDop_mkf (f : Fn) (a b : List RX) {st : St} {K : AV → Heap → Nat → Prop} : vDop P (.mkf f a b) st K = runK (aop (.mkf f a b) st.ev st.H st.k) K := (rfl)
theorem vOp_nilck (x : RX) {st : St} {K : AV → Heap → Nat → Prop} : vOp P (.nilck x) st K = runK (aop (.nilck x) st.ev st.H st.k) K := (rfl)
theorem vOp_snil (n : Bool) (x : RX) {st : St} {K : AV → Heap → Nat → Prop} : vOp P (.snil n x) st K = (match rowsOf st.H (st.ev x) with | some rows => ∀ b, (rows ≠ [] → b = false) → K (.p (.c (.bool (b != n)))) st.H st.k | none => False) := (rfl)
theorem vDop_nilck (x : RX) {st : St} {K : AV → Heap → Nat → Prop} : vDop P (.nilck x) st K = runK (aop (.nilck x) st.ev st.H st.k) K := (rfl)
theorem vOp_callx {f : FuncId} {args : List RX} {st : St} {K : AV → Heap → Nat → Prop} : vOp P (.call f args) st K = ACalls P f (args.map st.ev) st.H st.k K := (rfl)
theorem vDop_callx {f : FuncId} {args : List RX} {st : St} {K : AV → Heap → Nat → Prop} : vDop P (.call f args) st K = (∃ v, ACalls P f (args.map st.ev) st.H st.k (fun v' H' k' => v' = v ∧ H' = st.H ∧ k' = st.k) ∧ K v st.H st.k) := (rfl)
def callV (P : Program) (x : AV) (args : List AV) (H : Heap) (k : Nat) (K : AV → Heap → Nat → Prop) : Prop := match x with
  | .fn (.func f) first cap => enters P f = true ∧ ACalls P f (first ++ args ++ cap) H k K
  | _ => False
theorem callV_fn {f : FuncId} {first cap args : List AV} {H : Heap} {k : Nat} {K : AV → Heap → Nat → Prop} : callV P (.fn (.func f) first cap) args H k K = (enters P f = true ∧ ACalls P f (first ++ args ++ cap) H k K) := (rfl)
theorem vOp_callv {x : RX} {args : List RX} {st : St} {K : AV → Heap → Nat → Prop} : vOp P (.callv x args) st K = callV P (st.ev x) (args.map st.ev) st.H st.k K := (rfl)
section
variable {q : IntKind} {a b : Int}
theorem ibinA_add : ibinA .add q (.p (.c (.int q a))) (.p (.c (.int q b))) = some (.p (.c (.int q (q.wrap (a + b))))) := by simp [ibinA, ibinV]
theorem ibinA_sub : ibinA .sub q (.p (.c (.int q a))) (.p (.c (.int q b))) = some (.p (.c (.int q (q.wrap (a - b))))) := by simp [ibinA, ibinV]
theorem ibinA_mul : ibinA .mul q (.p (.c (.int q a))) (.p (.c (.int q b))) = some (.p (.c (.int q (q.wrap (a * b))))) := by simp [ibinA, ibinV]
theorem ibinA_quo (h : b ≠ 0) : ibinA .quo q (.p (.c (.int q a))) (.p (.c (.int q b))) = some (.p (.c (.int q (q.wrap (a.tdiv b))))) := by simp [ibinA, ibinV, h]
theorem ibinA_rem (h : b ≠ 0) : ibinA .rem q (.p (.c (.int q a))) (.p (.c (.int q b))) = some (.p (.c (.int q (a.tmod b)))) := by simp [ibinA, ibinV, h]
theorem ibinA_eql : ibinA .eql q (.p (.c (.int q a))) (.p (.c (.int q b))) = some (.p (.c (.bool (a == b)))) := by simp [ibinA, ibinV]
theorem ibinA_neq : ibinA .neq q (.p (.c (.int q a))) (.p (.c (.int q b))) = some (.p (.c (.bool (a != b)))) := by simp [ibinA, ibinV]
theorem ibinA_lss : ibinA .lss q (.p (.c (.int q a))) (.p (.c (.int q b))) = some (.p (.c (.bool (decide (a < b))))) := by simp [ibinA, ibinV]
theorem ibinA_leq : ibinA .leq q (.p (.c (.int q a))) (.p (.c (.int q b))) = some (.p (.c (.bool (decide (a ≤ b))))) := by simp [ibinA, ibinV]
theorem ibinA_gtr : ibinA .gtr q (.p (.c (.int q a))) (.p (.c (.int q b))) = some (.p (.c (.bool (decide (a > b))))) := by simp [ibinA, ibinV]
theorem ibinA_geq : ibinA .geq q (.p (.c (.int q a))) (.p (.c (.int q b))) = some (.p (.c (.bool (decide (a ≥ b))))) := by simp [ibinA, ibinV]
end

theorem E0 : type_of% (And.intro @eq_self.{1} (And.intro @if_true.{1} (And.intro @if_false.{1} (And.intro @ite_true.{1} (And.intro @ite_false.{1} (And.intro @Nat.one_ne_zero (And.intro @Nat.zero_ne_one (And.intro @Nat.add_one_ne_zero (@Nat.succ_ne_self))))))))) := And.intro @eq_self.{1} (And.intro @if_true.{1} (And.intro @if_false.{1} (And.intro @ite_true.{1} (And.intro @ite_false.{1} (And.intro @Nat.one_ne_zero (And.intro @Nat.zero_ne_one (And.intro @Nat.add_one_ne_zero (@Nat.succ_ne_self))))))))
theorem HC0 : type_of% (And.intro @Bool.false_eq_true (And.intro @Bool.true_eq_false (And.intro @Bool.not_eq_true (And.intro @Bool.not_eq_true' (And.intro @Bool.not_eq_false' (And.intro @Bool.not_true (And.intro @Bool.not_false (And.intro @decide_eq_true_eq (And.intro @decide_eq_false_iff_not (And.intro @Bool.and_eq_true (And.intro @Bool.or_eq_true (And.intro @Bool.and_eq_false_imp (And.intro @Bool.or_eq_false_iff (And.intro @beq_iff_eq.{0} (And.intro @bne_iff_ne.{0} (And.intro @ne_eq.{1} (And.intro @beq_eq_false_iff_ne.{0} (And.intro @bne_eq_false_iff_eq.{0} (And.intro @not_true_eq_false (@not_false_eq_true)))))))))))))))))))) := And.intro @Bool.false_eq_true (And.intro @Bool.true_eq_false (And.intro @Bool.not_eq_true (And.intro @Bool.not_eq_true' (And.intro @Bool.not_eq_false' (And.intro @Bool.not_true (And.intro @Bool.not_false (And.intro @decide_eq_true_eq (And.intro @decide_eq_false_iff_not (And.intro @Bool.and_eq_true (And.intro @Bool.or_eq_true (And.intro @Bool.and_eq_false_imp (And.intro @Bool.or_eq_false_iff (And.intro @beq_iff_eq.{0} (And.intro @bne_iff_ne.{0} (And.intro @ne_eq.{1} (And.intro @beq_eq_false_iff_ne.{0} (And.intro @bne_eq_false_iff_eq.{0} (And.intro @not_true_eq_false (@not_false_eq_true)))))))))))))))))))
attribute [go_sem] vOps_nil vOps_offf vD_none vOp_mv goK_some ibinA_quo ibinA_lss vOp_pick vOp_sbin vOp_eqv vOp_neg vOp_scv vOp_store vOp_fld vOp_aaddr vOp_ssl vOp_alloc vOp_build vOp_mslice vOp_look vOp_mlen vOp_len vOp_min vOp_ext vOp_nilck vOp_snil vOp_callv Heap.get3 vOps_none vOps_un vD_on vDop_mv ibinA_add ibinA_rem ibinA_leq vDop_pick vDop_sbin vDop_eqv vDop_neg vDop_scv vDop_store vDop_fld vDop_aaddr vDop_ssl vDop_alloc vDop_build vDop_mslice vDop_look vDop_mlen vDop_len vDop_min vDop_ext vDop_nilck callV_fn Heap.put3 vOps_on vD_un vD_offt vOp_ibin ibinA_sub ibinA_eql ibinA_gtr vOp_shift vOp_bbin vOp_not vOp_conv vOp_load vOp_faddr vOp_iaddr vOp_sidx vOp_lsl vOp_box vOp_bslice vOp_mmap vOp_mupd vOp_app vOp_slen vOp_max vOp_mkf vOp_callx runK_some vOps_offt vD_nil vD_offf vDop_ibin ibinA_mul ibinA_neq ibinA_geq vDop_shift vDop_bbin vDop_not vDop_conv vDop_load vDop_faddr vDop_iaddr vDop_sidx vDop_lsl vDop_box vDop_bslice vDop_mmap vDop_mupd vDop_app vDop_slen vDop_max vDop_mkf vDop_callx Env.get3 List.cons_append List.nil_append List.getElem?_cons_zero List.getElem?_cons_succ Option.bind_eq_bind Option.pure_def Option.getD_some Option.getD_none Option.isSome_some Option.isSome_none List.set_cons_zero List.set_cons_succ List.concat_eq_append List.drop_succ_cons List.drop_zero List.take_succ_cons List.take_zero List.take_nil List.drop_nil List.length_cons List.length_nil List.all_cons List.all_nil List.length_append List.append_nil List.length_replicate List.forall_mem_cons List.not_mem_nil aop St.ev St.put Env.at3 argEnv Heap.at3 Heap.set3 Heap.del List.map List.all List.take List.drop List.length List.append List.mapM_cons List.mapM_nil Option.bind_some Option.bind_none ibinV sbinV flatEq cellsEq mfind mput cut cutP AV.cells AV.ofCells allP PV.single flat live AV.shift aint aint64 bnd rowsOf fillA fillRows Option.map_some Option.map_none Option.bind Bool.and_true Bool.true_and Bool.and_self Bool.and_false Bool.false_and reduceCtorEq Bool.not_true Bool.not_false ne_eq not_true_eq_false not_false_eq_true forall_const and_true true_and and_self Bool.true_eq_false Bool.false_eq_true ite_true ite_false if_true if_false Nat.reduceAdd Nat.reduceLeDiff Nat.reduceEqDiff Nat.reduceMul Nat.reduceSub Int.reduceEq Int.reduceNe Nat.reduceLT Nat.zero_add Nat.add_zero Nat.succ_ne_zero Nat.le_refl Nat.zero_le Int.toNat_zero Int.toNat_natCast Int.natCast_nonneg Int.le_refl List.replicate List.set List.map_cons List.map_nil List.foldl_cons List.foldl_nil List.length_map beq_self_eq_true implies_true AV.p.injEq false_implies frzNL frzN frzL AV.frz Heap.frz AObj.frz isShut FinP FinZ resv res1 belowA belowL nzA nzP nzPs nzPss Nat.succ_ne_self eq_self Nat.one_ne_zero Nat.zero_ne_one Nat.add_one_ne_zero
end Go.Abs
