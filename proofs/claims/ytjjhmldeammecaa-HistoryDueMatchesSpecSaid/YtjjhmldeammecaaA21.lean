/-
  Abs, part 21: what a law is handed, read as data; what it leaves.
-/
import Derived.Test.YtjjhmldeammecaaA20
import Derived.ChangeStays
import Derived.ChangeSame
import Derived.OpenShut
import Derived.WideShapes
namespace Go.Abs
open Go Go.ChangeShapes Go.WideShapes

section
variable {H : Type} {enc : TypeId × Value → H} {P : Program} {W : World}

def ShpAll (R : TypeId → List PV → Prop) : List TypeId → List PV → Prop
  | [], pv => pv = []
  | t :: ts, pv => ∃ a b, pv = a ++ b ∧ R t a ∧ ShpAll R ts b
/-- The cells of a value of a type, as data. -/
def Shp (P : Program) : Nat → TypeId → List PV → Prop
  | 0, _, _ => False
  | n + 1, t, pv => match P.underlying t with
    | some .bool => ∃ b, pv = [vb b]
    | some (.int k) => ∃ z, (Lit.int k z).wf = true ∧ pv = [.c (.int k z)]
    | some .string => ∃ s : ByteArray, s.size ≤ maxLen ∧ pv = [vs s]
    | some (.slice e) => ∃ rows, pv = [.sl rows] ∧ rows.length ≤ top ∧ ∀ r ∈ rows, Shp P n e r
    | some (.struct fs) => ShpAll (Shp P n) (fs.toList.map (·.type)) pv
    | _ => False

/-- Types without pointers, maps, functions. -/
def plainB (P : Program) (L : List TypeId) : Bool := L.all fun t => decide (t < P.types.size) && match P.underlying t with
  | some .bool | some (.int _) | some .string => true
  | some (.slice e) => L.contains e && decide (0 < P.cellsOf e)
  | some (.struct fs) => fs.toList.all fun f => L.contains f.type
  | _ => false

def ofW (W : World) : Nat → Option Obj := fun b => W.heap[b]?

theorem cell_heap {a : Addr} {v : Value} (h : W.cell? a = some v) : ∃ c t fr, W.heap[a.block]? = some (.cells c t fr) ∧ a.spot = none ∧ c[a.off]? = some v := by
  unfold World.cell? at h
  split at h
  · rename_i c t fr hb
    cases hs : a.spot with
    | none => rw [hs] at h; exact ⟨c, t, fr, hb, rfl, by simpa using h⟩
    | some s => rw [hs] at h; simp at h
  · cases h

theorem mapM_some_get {α β : Type} {f : α → Option β} : ∀ {l : List α} {r : List β}, l.mapM f = some r → r.length = l.length ∧ ∀ (i : Nat) (x : α), l[i]? = some x → ∃ y, r[i]? = some y ∧ f x = some y
  | [], r, h => by simp at h; subst h; simp
  | a :: l, r, h => by
    rw [List.mapM_cons] at h
    simp only [Option.bind_eq_bind, Option.bind_eq_some_iff, Option.pure_def, Option.some.injEq] at h
    obtain ⟨y, h1, ys, h2, rfl⟩ := h
    obtain ⟨h3, h4⟩ := mapM_some_get h2
    refine ⟨by simp [h3], fun i x hx => ?_⟩
    cases i with
    | zero => simp at hx; subst hx; exact ⟨y, rfl, h1⟩
    | succ i => exact h4 i x (by simpa using hx)

theorem cells_heap {base : Nat} {a : Addr} {n : Nat} {cs : List Value} (h : W.cells? base a n = some cs) (hn : 0 < n) :
    ∃ c t fr, W.heap[a.block]? = some (.cells c t fr) ∧ a.spot = none ∧ cs.length = n ∧ CellsAt c a.off cs := by
  unfold World.cells? at h
  split at h
  · obtain ⟨hl, hg⟩ := mapM_some_get h
    obtain ⟨y, _, h0⟩ := hg 0 0 (by simp [hn])
    obtain ⟨c, t, fr, hb, hs, _⟩ := cell_heap h0
    simp only [Addr.add, if_true] at hb hs
    refine ⟨c, t, fr, hb, hs, by simpa using hl, fun j x hj => ?_⟩
    have hjl : j < n := by
      have := (List.getElem?_eq_some_iff.1 hj).1
      simp at hl; omega
    obtain ⟨y, hy, hc⟩ := hg j j (by simp [hjl])
    rw [hj] at hy; cases hy
    obtain ⟨c', t', fr', hb', _, hv⟩ := cell_heap hc
    have e1 : (a.add j).block = a.block := by unfold Addr.add; split <;> rfl
    have e2 : (a.add j).off = a.off + j := by unfold Addr.add; split <;> simp_all
    rw [e1, hb] at hb'
    cases hb'
    rw [e2] at hv
    exact hv
  · cases h

/-- The rows of a slice. -/
theorem rows_shp {sz : Nat} (hsz : 0 < sz) {a : Addr} {rd : List Value → Option (DataW H × List MemPlace)} {R : List PV → Prop} (hrd : ∀ cs x, rd cs = some x → ∃ pv, PRepL (ofW W) pv cs ∧ R pv) :
    ∀ (n i0 : Nat), (∀ i, i < n → ∃ x, (W.cells? 0 (a.add ((i0 + i) * sz)) sz).bind rd = some x) →
      ∃ rows vals, PRepLL (ofW W) rows vals ∧ rows.length = n ∧ (∀ r ∈ rows, R r) ∧ (0 < n → ∃ c t fr, W.heap[a.block]? = some (.cells c t fr) ∧ (i0 = 0 → a.spot = none) ∧ RowsAt c (a.off + i0 * sz) sz vals)
  | 0, i0, _ => ⟨[], [], by simp [PRepLL], rfl, by simp, fun h => by omega⟩
  | n + 1, i0, h => by
    obtain ⟨x, hx0⟩ := h 0 (by omega)
    simp only [Nat.add_zero, Option.bind_eq_some_iff] at hx0
    obtain ⟨cs, hc, hx⟩ := hx0
    obtain ⟨pv, p1, p2⟩ := hrd cs x hx
    obtain ⟨rows, vals, q1, q2, q3, q4⟩ := rows_shp hsz hrd n (i0 + 1) (fun i hi => by
      have := h (i + 1) (by omega)
      rwa [show i0 + (i + 1) = i0 + 1 + i by omega] at this)
    obtain ⟨c, t, fr, hb, hs, hl, hat⟩ := cells_heap hc hsz
    have e1 : (a.add (i0 * sz)).block = a.block := by unfold Addr.add; split <;> rfl
    have e2 : (a.add (i0 * sz)).off = a.off + i0 * sz := by
      unfold Addr.add
      split
      · rename_i h0; rw [h0]; rfl
      · rfl
    rw [e1] at hb
    rw [e2] at hat
    refine ⟨pv :: rows, cs :: vals, ?_, by simp [q2], ?_, fun _ => ⟨c, t, fr, hb, fun h0 => ?_, ?_⟩⟩
    · simp only [PRepLL]; exact ⟨cs, vals, rfl, p1, q1⟩
    · intro r hr
      cases hr with
      | head => exact p2
      | tail _ hr => exact q3 r hr
    · subst h0
      simpa [Addr.add] using hs
    · intro i r hr
      cases i with
      | zero =>
        simp at hr; subst hr
        exact ⟨hl, fun j x hj => by simpa using hat j x hj⟩
      | succ i =>
        have hr' : vals[i]? = some r := by simpa using hr
        have hpos : 0 < n := by
          have := (List.getElem?_eq_some_iff.1 hr').1
          have := q1.length
          omega
        obtain ⟨c', t', fr', hb', _, hat'⟩ := q4 hpos
        rw [hb] at hb'; cases hb'
        have := hat' i r hr'
        rw [show a.off + i0 * sz + (i + 1) * sz = a.off + (i0 + 1) * sz + i * sz by rw [Nat.add_mul, Nat.add_mul]; omega]
        exact this

/-- The fields of a struct. -/
theorem fields_shp {rd : TypeId → List Value → Option (DataW H × List MemPlace)} {R : TypeId → List PV → Prop} {cs : List Value} : ∀ (fs : List Field) (base : Nat),
    (∀ f ∈ fs, ∀ cs x, rd f.type cs = some x → ∃ pv, PRepL (ofW W) pv cs ∧ R f.type pv) →
    (∀ (j : Nat) f, fs[j]? = some f → f.offset = base + ((fs.take j).map fun f => P.cellsOf f.type).sum) →
    (∀ f ∈ fs, ∃ x, rd f.type ((cs.drop f.offset).take (P.cellsOf f.type)) = some x) → base + (fs.map fun f => P.cellsOf f.type).sum = cs.length →
    ∃ pv, PRepL (ofW W) pv (cs.drop base) ∧ ShpAll R (fs.map (·.type)) pv
  | [], base, _, _, _, hl => ⟨[], by
      have : cs.drop base = [] := List.drop_eq_nil_of_le (by simp at hl; omega)
      rw [this]; simp [PRepL], rfl⟩
  | f :: fs, base, hr, ho, h, hl => by
    obtain ⟨x, h1⟩ := h f (by simp)
    have h2 := fun g (hg : g ∈ fs) => h g (List.mem_cons_of_mem _ hg)
    have ho0 : f.offset = base := by simpa using ho 0 f rfl
    obtain ⟨pv, p1, p2⟩ := hr f (by simp) _ _ h1
    obtain ⟨pv', q1, q2⟩ := fields_shp fs (base + P.cellsOf f.type) (fun g hg => hr g (List.mem_cons_of_mem _ hg)) (fun j g hg => by
      have := ho (j + 1) g (by simpa using hg)
      simp only [List.take_succ_cons, List.map_cons, List.sum_cons] at this
      omega) h2 (by simp only [List.map_cons, List.sum_cons] at hl; omega)
    refine ⟨pv ++ pv', ?_, pv, pv', rfl, p2, q2⟩
    rw [ho0] at p1
    have e : cs.drop base = (cs.drop base).take (P.cellsOf f.type) ++ cs.drop (base + P.cellsOf f.type) := by
      rw [← List.drop_drop, List.take_append_drop]
    rw [e]
    exact p1.append q1

theorem read_shp (K : Kids P (· < P.types.size)) {L : List TypeId} (hL : plainB P L = true) {sp : Nat → Bool} (hsp : ∀ b, sp b = true) {held : Bool} : ∀ (n : Nat) (t : TypeId) (cs : List Value) (x : DataW H × List MemPlace), t ∈ L →
    DataW.trod enc P W 0 sp held n t cs = some x → ∃ pv, PRepL (ofW W) pv cs ∧ Shp P n t pv
  | 0, _, _, _, _, h => by simp [DataW.trod] at h
  | n + 1, t, cs, x, ht, h => by
    have hp := List.all_eq_true.1 hL t ht
    simp only [Bool.and_eq_true, decide_eq_true_eq] at hp
    obtain ⟨hlt, hp⟩ := hp
    have ih := read_shp K hL hsp (held := held) n
    simp only [Shp]
    split at hp
    · rename_i hu
      obtain ⟨b, rfl, _⟩ := DataW.trod_bool hu h
      exact ⟨[vb b], by simp [PRepL, PRep], b, rfl⟩
    · rename_i k hu
      obtain ⟨z, rfl, _, hw⟩ := DataW.trod_int hu h
      exact ⟨[.c (.int k z)], by simp [PRepL, PRep], z, hw, rfl⟩
    · rename_i hu
      obtain ⟨s, rfl, _, hs⟩ := DataW.trod_string hu h
      exact ⟨[vs s], by simp [PRepL, PRep], s, hs, rfl⟩
    · rename_i e hu
      simp only [Bool.and_eq_true, List.contains_eq_mem, decide_eq_true_eq] at hp
      obtain ⟨he, hsz⟩ := hp
      rcases DataW.trod_slice hu h with ⟨rfl, _⟩ | ⟨a, len, cap, elems, rest, m, hm, rfl, _, _, hlc, hcm, hel, hels, hrest⟩
      · exact ⟨[.sl []], by simp [PRepL, PRep, top], [], rfl, by simp [top], by simp⟩
      · cases hm
        obtain ⟨rows, vals, q1, q2, q3, q4⟩ := rows_shp (R := Shp P n e) hsz (fun cs x hx => ih e cs x he hx) len 0 (fun i hi => by
          rw [Nat.zero_add, hels i hi]
          exact ⟨elems[i]'(by omega), by simp [hel, hi]⟩)
        refine ⟨[.sl rows], ?_, rows, rfl, by rw [q2]; unfold maxLen at hcm; unfold top; omega, q3⟩
        simp only [PRepL, PRep]
        refine ⟨_, [], rfl, ⟨by rw [q2]; unfold maxLen at hcm; unfold top; omega, ?_⟩, rfl⟩
        rcases Nat.eq_zero_or_pos len with h0 | h0
        · subst h0
          have hr0 : rows = [] := List.eq_nil_of_length_eq_zero q2
          subst hr0
          rcases Nat.eq_zero_or_pos cap with hc0 | hc0
          · subst hc0
            exact .inl ⟨rfl, _, rfl⟩
          · obtain ⟨r1, r2⟩ := hrest.1 (hsp _)
            have h1 := r2 0 (by omega)
            rw [show rest[0]? = some (rest[0]'(by omega)) by simp [show 0 < rest.length by omega]] at h1
            simp only [Option.bind_eq_some_iff, Nat.add_zero, Nat.zero_mul, Addr.add, if_true] at h1
            obtain ⟨cs0, hc, _⟩ := h1
            obtain ⟨c, t', fr, hb, hs, _, _⟩ := cells_heap hc hsz
            refine .inr ⟨a.block, a.off, cap, P.cellsOf e, c, t', fr, [], ?_, by simp, hb, by simp [PRepLL], fun i r h => by simp at h⟩
            cases a
            simp at hs
            simp [hs]
        · obtain ⟨c, t', fr, hb, hs, hat⟩ := q4 h0
          refine .inr ⟨a.block, a.off, cap, P.cellsOf e, c, t', fr, vals, ?_, by omega, hb, q1, by simpa using hat⟩
          rw [q2]
          cases a
          simp at hs
          simp [hs]
    · rename_i fs hu
      obtain ⟨xs, m, hm, _, hl, hxl, hx⟩ := DataW.trod_struct hu h
      cases hm
      obtain ⟨_, k2, k3⟩ := K.struct hlt hu
      have hp' := List.all_eq_true.1 hp
      obtain ⟨pv, q1, q2⟩ := fields_shp (W := W) (P := P) (rd := DataW.trod enc P W 0 sp held n) (R := Shp P n) (cs := cs) fs.toList 0
        (fun f hf cs x hx => ih f.type cs x (by simpa using hp' f hf) hx)
        (fun j f hf => by rw [Nat.zero_add]; exact k3 j f hf)
        (fun f hf => by
          obtain ⟨i, hi, rfl⟩ := List.getElem_of_mem hf
          have hi' : i < fs.size := by simpa using hi
          have := hx i fs[i] (by simp [hi'])
          simp only [Array.getElem_toList]
          rw [this]
          exact ⟨xs[i]'(by omega), by simp [hxl, hi']⟩)
        (by rw [Nat.zero_add, hl, k2])
      exact ⟨pv, by simpa using q1, q2⟩
    · cases hp

theorem rows_map {α β : Type} {f : α → β} {Q : α → Prop} : ∀ {rows : List β}, (∀ r ∈ rows, ∃ z, Q z ∧ r = f z) → ∃ l : List α, rows = l.map f ∧ ∀ z ∈ l, Q z
  | [], _ => ⟨[], rfl, by simp⟩
  | r :: rows, h => by
    obtain ⟨z, hz, rfl⟩ := h r (by simp)
    obtain ⟨l, rfl, hl⟩ := rows_map fun r hr => h r (List.mem_cons_of_mem _ hr)
    exact ⟨z :: l, rfl, fun y hy => by
      cases hy with
      | head => exact hz
      | tail _ hy => exact hl y hy⟩
theorem shp_int {n : Nat} {t : TypeId} {k : IntKind} {pv : List PV} (hu : P.underlying t = some (.int k)) (h : Shp P n t pv) : ∃ z, (Lit.int k z).wf = true ∧ pv = [.c (.int k z)] := by
  cases n with
  | zero => exact h.elim
  | succ n => simpa only [Shp, hu] using h
theorem shp_bool {n : Nat} {t : TypeId} {pv : List PV} (hu : P.underlying t = some .bool) (h : Shp P n t pv) : ∃ b, pv = [vb b] := by
  cases n with
  | zero => exact h.elim
  | succ n => simpa only [Shp, hu] using h
theorem shp_str {n : Nat} {t : TypeId} {pv : List PV} (hu : P.underlying t = some .string) (h : Shp P n t pv) : ∃ s : ByteArray, s.size ≤ maxLen ∧ pv = [vs s] := by
  cases n with
  | zero => exact h.elim
  | succ n => simpa only [Shp, hu] using h
theorem shp_slice {α : Type} {f : α → List PV} {Q : α → Prop} {n : Nat} {t e : TypeId} {pv : List PV} (hu : P.underlying t = some (.slice e)) (hr : ∀ n r, Shp P n e r → ∃ z, Q z ∧ r = f z) (h : Shp P n t pv) : ∃ l : List α, pv = [.sl (l.map f)] ∧ l.length ≤ top ∧ ∀ z ∈ l, Q z := by
  cases n with
  | zero => exact h.elim
  | succ n =>
    simp only [Shp, hu] at h
    obtain ⟨rows, rfl, hl, h⟩ := h
    obtain ⟨l, rfl, hq⟩ := rows_map (f := f) (Q := Q) fun r hr' => hr n r (h r hr')
    exact ⟨l, rfl, by simpa using hl, hq⟩
theorem shp_struct {n : Nat} {t : TypeId} {fs : Array Field} {pv : List PV} (hu : P.underlying t = some (.struct fs)) (h : Shp P n t pv) : ∃ m, ShpAll (Shp P m) (fs.toList.map (·.type)) pv := by
  cases n with
  | zero => exact h.elim
  | succ n => exact ⟨n, by simpa only [Shp, hu] using h⟩
/-- An argument that is a struct. -/
theorem arg_struct (K : Kids P (· < P.types.size)) {L : List TypeId} (hL : plainB P L = true) {t : TypeId} (ht : t ∈ L) {fs : Array Field} (hu : P.underlying t = some (.struct fs)) {base : Nat} {v : Value} {d : DataW H} {ps : List MemPlace}
    (hv : Value.okWide P W .any base t v) (h : DataW.Trod enc P W 0 (fun _ => true) true t v d ps) : ∃ n pv, Shp P n t pv ∧ PRep (ofW W) (.agg pv) v := by
  obtain ⟨cs, rfl, _⟩ := okWide_struct hu hv
  obtain ⟨n, hn⟩ := h
  obtain ⟨pv, h1, h2⟩ := read_shp K hL (fun _ => rfl) n t cs.toList _ ht hn
  exact ⟨n, pv, h2, by simp only [PRep]; exact ⟨cs, rfl, h1⟩⟩
/-- An argument that is a slice. -/
theorem arg_slice (K : Kids P (· < P.types.size)) {L : List TypeId} (hL : plainB P L = true) {t : TypeId} (ht : t ∈ L) {e : TypeId} (hu : P.underlying t = some (.slice e)) {base : Nat} {v : Value} {d : DataW H} {ps : List MemPlace}
    (hv : Value.okWide P W .any base t v) (h : DataW.Trod enc P W 0 (fun _ => true) true t v d ps) : ∃ n x, Shp P n t [x] ∧ PRep (ofW W) x v := by
  obtain ⟨a, len, cap, rfl⟩ := okWide_slice hu hv
  obtain ⟨n, hn⟩ := h
  obtain ⟨pv, h1, h2⟩ := read_shp K hL (fun _ => rfl) n t _ _ ht hn
  have h3 : (Value.slice a len cap).cells.toList = [Value.slice a len cap] := rfl
  rw [h3] at h1
  cases pv with
  | nil => simp [PRepL] at h1
  | cons x r =>
    simp only [PRepL] at h1
    obtain ⟨v, q, e1, p1, p2⟩ := h1
    cases e1
    cases r with
    | nil => exact ⟨n, x, h2, p1⟩
    | cons y r =>
      simp only [PRepL] at p2
      obtain ⟨_, _, e2, _⟩ := p2
      cases e2

/-! ### What a law leaves -/
def gOf (W : World) : G := ⟨fun _ => ⟨none, 0, 0, 0, 0⟩, ofW W⟩
theorem simOf (W : World) : SimH (gOf W) W [] 0 := ⟨fun n o h => by simp [Heap.get] at h, fun n m b h => by simp [Heap.get] at h, fun b o h => h⟩

def sizedB (P : Program) (L : List TypeId) : Bool := L.all fun t => match P.underlying t with
  | some (.slice e) => decide (0 < P.cellsOf e)
  | _ => true

/-- The types of a list, all of them read alike in a world that goes on from this one. -/
theorem trodAll_frame {T : TypeId → Prop} (K : Kids P T) (hsz : ∀ {t e : TypeId}, T t → P.underlying t = some (.slice e) → 0 < P.cellsOf e) {W' : World} {sp' : Nat → Bool} (hfr : ∀ b, b < W.heap.size → W'.heap[b]? = W.heap[b]?) :
    ∀ {ts : List TypeId} {vs : List Value} {ds : List (DataW H)} {ps : List MemPlace}, (∀ t ∈ ts, T t) → DataW.TrodAll enc P W 0 (fun _ => true) true ts vs ds ps → (∀ p ∈ ps, p.block < W.heap.size) → (∀ p ∈ ps, sp' p.block = true) →
      DataW.TrodAll enc P W' 0 sp' true ts vs ds ps
  | [], vs, ds, ps, _, h, _, _ => by
    obtain ⟨rfl, rfl, rfl⟩ := trodAll_nil h
    exact trodAll_mk0
  | t :: ts, vs, ds, ps, ht, h, hlt, hs => by
    obtain ⟨v, vs', d, ds', p, q, rfl, rfl, rfl, ⟨n, hn⟩, h2⟩ := trodAll_cons h
    refine trodAll_cons_mk ⟨n, ?_⟩ (trodAll_frame K hsz hfr (fun u hu => ht u (List.mem_cons_of_mem _ hu)) h2 (fun x hx => hlt x (List.mem_append_right _ hx)) (fun x hx => hs x (List.mem_append_right _ hx)))
    refine DataW.trod_stays K hsz (fun h => by cases h) (ht t (by simp)) hn (fun x hx => ?_) (fun x hx => hs x (List.mem_append_left _ hx))
    have hb := hlt x (List.mem_append_left _ hx)
    cases x with
    | cell b off => simp only [World.sameAt, World.cell?, hfr b hb]
    | map b => simp only [World.sameAt, hfr b hb]

theorem keptBut_of_frame {W' : World} {may : MemPlace → Prop} (h1 : W'.os = W.os) (h2 : W'.output = W.output) (hfr : ∀ b, b < W.heap.size → W'.heap[b]? = W.heap[b]?) : W.keptBut W' may := by
  refine ⟨h1, h2, fun i hi => ?_⟩
  rw [hfr i hi]
  cases h : W.heap[i]? with
  | none => simp
  | some o => cases o <;> simp

/-- THE LAW'S END: it answers true, all that was there stays. -/
theorem law_post {f : FuncId} {F : Func} {s : ChangeSpec} {T : TypeId → Prop} (K : Kids P T) (hsz : ∀ {t e : TypeId}, T t → P.underlying t = some (.slice e) → 0 < P.cellsOf e) {args : Array Value} {ds gs : List (DataW H)} {before : List MemPlace}
    (hW : DataW.Whole enc P F.params.toList s.vars false W args.toList ds gs before) (hts : ∀ t ∈ F.params.toList, T t) (hv : s.vars = []) (hfn : s.fn H ds = { results := [.lit (.bool true)], args := ds })
    {rt : TypeId} (hr : F.resultTypes = #[rt]) (hrt : P.underlying rt = some .bool) {xs : List AV} (hx : ARepL (gOf W) [] 0 xs args.toList) (hc : APure P f xs (.p (vb true))) :
    Calls P f args W fun e W' => ∃ v, e = .returned v ∧ s.post enc P F false true false false W args v W' := by
  refine (hc (gOf W) W args (simOf W) hx).mono ?_
  rintro e W' ⟨v, r, g', H', k', rfl, ⟨rfl, rfl, rfl⟩, h1, h2, h3⟩
  have hv1 : v = .bool true := rep_c h1
  subst hv1
  have hfr : ∀ b, b < W.heap.size → W'.heap[b]? = W.heap[b]? := fun b hb => h3.frame b hb (fun n h => absurd rfl h)
  have hlt : ∀ p ∈ before, p.block < W.heap.size := fun p hp => hW.lt p hp
  have hW' := hW
  obtain ⟨p, q, hA, hV, rfl, hz, _⟩ := hW
  rw [hv] at hV
  obtain ⟨rfl, rfl⟩ := trodVars_none hV
  simp only [List.append_nil] at *
  refine ⟨.bool true, rfl, ?_⟩
  have hargs : ∀ sp : Nat → Bool, (∀ x ∈ p, sp x.block = true) → DataW.TrodAll enc P W' 0 sp true F.params.toList args.toList ds p := fun sp hs => trodAll_frame K hsz hfr hts hA hlt hs
  have hres : ∀ (b : Nat) (sp : Nat → Bool) (hd : Bool), DataW.TrodAll enc P W' b sp hd F.resultTypes.toList ((Value.bool true).resultList F.resultTypes.size) [.lit (.bool true)] [] := by
    intro b sp hd
    rw [hr]
    exact trodAll_mk1 (⟨1, by simp [DataW.trod, Value.cells, hrt]⟩ : DataW.Trod enc P W' b sp hd rt (.bool true) (.lit (.bool true)) [])
  have hold : ∀ x ∈ p, decide (x.block < W.heap.size) = true := fun x hx => by simpa using hlt x hx
  refine ⟨ds, [], p, [], p, [], hW', ?_, ?_, ?_, keptBut_of_frame h3.os h3.output hfr, fun h => by cases h⟩
  · simp only [List.append_nil, hfn]; exact hres _ _ _
  · simp only [List.append_nil, hfn]; exact hargs _ hold
  · simp only [List.append_nil, hfn, hv]; rfl
end
end Go.Abs
