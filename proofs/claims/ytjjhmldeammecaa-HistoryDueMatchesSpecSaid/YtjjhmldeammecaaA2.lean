/-
  Abs, part 2: what stands for a value goes on standing for it.
-/
import Derived.Test.YtjjhmldeammecaaA1
namespace Go.Abs
open Go

mutual
theorem PRep.mono {fz fz' : Nat → Option Obj} (h : ∀ b o, fz b = some o → fz' b = some o) : ∀ (x : PV) (v : Value), PRep fz x v → PRep fz' x v
  | .c _, _, hx => by simp only [PRep] at *; exact hx
  | .agg cs, v, hx => by
    simp only [PRep] at *
    obtain ⟨vs, e, hl⟩ := hx
    exact ⟨vs, e, PRepL.mono h cs _ hl⟩
  | .sl rows, v, hx => by
    simp only [PRep] at *
    obtain ⟨hl, hx⟩ := hx
    refine ⟨hl, ?_⟩
    rcases hx with hx | ⟨b, off, cap, w, cs, t, fr, vals, e, hc, hf, hr, ha⟩
    · exact .inl hx
    · exact .inr ⟨b, off, cap, w, cs, t, fr, vals, e, hc, h _ _ hf, PRepLL.mono h rows _ hr, ha⟩
  | .ptr cells, v, hx => by
    simp only [PRep] at *
    obtain ⟨b, off, cs, t, fr, vals, e, hf, hr, ha⟩ := hx
    exact ⟨b, off, cs, t, fr, vals, e, h _ _ hf, PRepL.mono h _ _ hr, ha⟩
  | .mp es, v, hx => by
    simp only [PRep] at *
    obtain ⟨b, ms, c, e, hf, hr⟩ := hx
    exact ⟨b, ms, c, e, h _ _ hf, PRepM.mono h _ _ hr⟩
theorem PRepL.mono {fz fz' : Nat → Option Obj} (h : ∀ b o, fz b = some o → fz' b = some o) : ∀ (x : List PV) (v : List Value), PRepL fz x v → PRepL fz' x v
  | [], _, hx => by simp only [PRepL] at *; exact hx
  | x :: xs, v, hx => by
    simp only [PRepL] at *
    obtain ⟨a, r, e, h1, h2⟩ := hx
    exact ⟨a, r, e, PRep.mono h x a h1, PRepL.mono h xs r h2⟩
theorem PRepLL.mono {fz fz' : Nat → Option Obj} (h : ∀ b o, fz b = some o → fz' b = some o) : ∀ (x : List (List PV)) (v : List (List Value)), PRepLL fz x v → PRepLL fz' x v
  | [], _, hx => by simp only [PRepLL] at *; exact hx
  | x :: xs, v, hx => by
    simp only [PRepLL] at *
    obtain ⟨a, r, e, h1, h2⟩ := hx
    exact ⟨a, r, e, PRepL.mono h x a h1, PRepLL.mono h xs r h2⟩
theorem PRepM.mono {fz fz' : Nat → Option Obj} (h : ∀ b o, fz b = some o → fz' b = some o) : ∀ (x : List (PV × PV)) (v : List (Value × Value)), PRepM fz x v → PRepM fz' x v
  | [], _, hx => by simp only [PRepM] at *; exact hx
  | (x, y) :: xs, v, hx => by
    simp only [PRepM] at *
    obtain ⟨a, b, r, e, h1, h2, h3⟩ := hx
    exact ⟨a, b, r, e, PRep.mono h x a h1, PRep.mono h y b h2, PRepM.mono h xs r h3⟩
end
theorem MRep.pairs {fz : Nat → Option Obj} {clock : Nat} : ∀ {es : List (PV × PV)} {ms : List MapEntry}, MRep fz clock es ms → PRepM fz es (ms.map fun m => (m.key, m.val))
  | [], ms, h => by simp only [MRep] at h; subst h; simp [PRepM]
  | (x, y) :: es, ms, h => by
    simp only [MRep] at h
    obtain ⟨m, r, rfl, h1, h2, _, h4⟩ := h
    simp only [List.map_cons, PRepM]
    exact ⟨_, _, _, rfl, h1, h2, MRep.pairs h4⟩
theorem PRepM.length {fz : Nat → Option Obj} : ∀ {es : List (PV × PV)} {vs : List (Value × Value)}, PRepM fz es vs → vs.length = es.length
  | [], vs, h => by simp only [PRepM] at h; simp [h]
  | (x, y) :: es, vs, h => by
    simp only [PRepM] at h
    obtain ⟨a, b, r, rfl, _, _, h3⟩ := h
    simp [PRepM.length h3]

theorem MRep.mono {fz fz' : Nat → Option Obj} (h : ∀ b o, fz b = some o → fz' b = some o) {c c' : Nat} (hc : c ≤ c') : ∀ (es : List (PV × PV)) (ms : List MapEntry), MRep fz c es ms → MRep fz' c' es ms
  | [], _, hx => by simp only [MRep] at *; exact hx
  | e :: es, ms, hx => by
    simp only [MRep] at *
    obtain ⟨m, r, e', h1, h2, h3, h4⟩ := hx
    exact ⟨m, r, e', PRep.mono h _ _ h1, PRep.mono h _ _ h2, Nat.lt_of_lt_of_le h3 hc, MRep.mono h hc es r h4⟩

/-- From one stage of ghost, blocks and names to a later one: the handles of the first are right in the second. -/
structure Keeps (g : G) (H : Heap) (k : Nat) (g' : G) (H' : Heap) (k' : Nat) : Prop where
  kle : k ≤ k'
  fz : ∀ b o, g.fz b = some o → g'.fz b = some o
  at_ : ∀ n o', n < k → H'.get n = some o' → ∃ o, H.get n = some o ∧ Compat (g.ρ n) (g'.ρ n) o o'

theorem Compat.refl (l : Loc) (o : AObj) : Compat l l o o := by cases o <;> simp [Compat]

theorem Keeps.refl (g : G) (H : Heap) (k : Nat) : Keeps g H k g H k := ⟨Nat.le_refl _, fun _ _ h => h, fun _ o' _ h => ⟨o', h, Compat.refl _ _⟩⟩

theorem Compat.trans {l l' l'' : Loc} {o o' o'' : AObj} (h : Compat l l' o o') (h' : Compat l' l'' o' o'') : Compat l l'' o o'' := by
  cases o <;> cases o' <;> cases o'' <;> simp only [Compat] at * <;> first | exact h'.trans h | skip
  rcases h with ⟨rfl, h⟩ | h <;> rcases h' with ⟨rfl, h'⟩ | h'
  · exact .inl ⟨rfl, h'.trans h⟩
  · exact .inr (by omega)
  · exact .inr (by omega)
  · exact .inr (by omega)

theorem Keeps.trans {g g' g'' : G} {H H' H'' : Heap} {k k' k'' : Nat} (h : Keeps g H k g' H' k') (h' : Keeps g' H' k' g'' H'' k'') : Keeps g H k g'' H'' k'' :=
  ⟨Nat.le_trans h.kle h'.kle, fun b o x => h'.fz _ _ (h.fz _ _ x), fun n o'' hn ho => by
    obtain ⟨o', h1, c1⟩ := h'.at_ n o'' (Nat.lt_of_lt_of_le hn h.kle) ho
    obtain ⟨o, h2, c2⟩ := h.at_ n o' hn h1
    exact ⟨o, h2, c2.trans c1⟩⟩

mutual
theorem ARep.keeps {g g' : G} {H H' : Heap} {k k' : Nat} (h : Keeps g H k g' H' k') : ∀ (x : AV) (v : Value), ARep g H k x v → ARep g' H' k' x v
  | .p x, v, hx => by simp only [ARep] at *; exact PRep.mono h.fz x v hx
  | .agg cs, v, hx => by
    simp only [ARep] at *
    obtain ⟨vs, e, hl⟩ := hx
    exact ⟨vs, e, ARepL.keeps h cs _ hl⟩
  | .tup cs, v, hx => by
    simp only [ARep] at *
    obtain ⟨vs, e, hl⟩ := hx
    exact ⟨vs, e, ARepL.keeps h cs _ hl⟩
  | .bp n off, v, hx => by
    simp only [ARep] at *
    refine ⟨Nat.lt_of_lt_of_le hx.1 h.kle, hx.2.1, fun cs hcs => ?_⟩
    obtain ⟨o, ho, hc⟩ := h.at_ n _ hx.1 hcs
    cases o <;> simp only [Compat] at hc
    rw [hc]; exact hx.2.2 _ ho
  | .ep n i j len, v, hx => by
    simp only [ARep] at *
    refine ⟨Nat.lt_of_lt_of_le hx.1 h.kle, hx.2.1, fun rows hcs => ?_⟩
    obtain ⟨o, ho, hc⟩ := h.at_ n _ hx.1 hcs
    cases o <;> simp only [Compat] at hc
    obtain ⟨hl, hh⟩ := hx.2.2 _ ho
    rcases hc with ⟨e, hc⟩ | hc
    · rw [e]; exact ⟨by omega, fun hl' => hh (by omega)⟩
    · exact ⟨by omega, fun hl' => by omega⟩
  | .os n off len, v, hx => by
    simp only [ARep] at *
    refine ⟨Nat.lt_of_lt_of_le hx.1 h.kle, hx.2.1, fun rows hcs => ?_⟩
    obtain ⟨o, ho, hc⟩ := h.at_ n _ hx.1 hcs
    cases o <;> simp only [Compat] at hc
    obtain ⟨hl, hh⟩ := hx.2.2 _ ho
    rcases hc with ⟨e, hc⟩ | hc
    · rw [e]; exact ⟨by omega, fun hl' => hh (by omega)⟩
    · exact ⟨by omega, fun hl' => by omega⟩
  | .mp n, v, hx => by
    simp only [ARep] at *
    refine ⟨Nat.lt_of_lt_of_le hx.1 h.kle, hx.2.1, fun cs hcs => ?_⟩
    obtain ⟨o, ho, hc⟩ := h.at_ n _ hx.1 hcs
    cases o <;> simp only [Compat] at hc
    rw [hc]; exact hx.2.2 _ ho
  | .fn f a b, v, hx => by
    simp only [ARep] at *
    obtain ⟨x, y, e, h1, h2⟩ := hx
    exact ⟨x, y, e, ARepL.keeps h _ _ h1, ARepL.keeps h _ _ h2⟩
  | .ifc t x, v, hx => by
    simp only [ARep] at *
    obtain ⟨y, e, h1⟩ := hx
    exact ⟨y, e, ARep.keeps h _ _ h1⟩
  | .junk, _, _ => by simp only [ARep]
theorem ARepL.keeps {g g' : G} {H H' : Heap} {k k' : Nat} (h : Keeps g H k g' H' k') : ∀ (x : List AV) (v : List Value), ARepL g H k x v → ARepL g' H' k' x v
  | [], _, hx => by simp only [ARepL] at *; exact hx
  | x :: xs, v, hx => by
    simp only [ARepL] at *
    obtain ⟨a, r, e, h1, h2⟩ := hx
    exact ⟨a, r, e, ARep.keeps h x a h1, ARepL.keeps h xs r h2⟩
end

/-- A block of the run's own that nobody touched. -/
theorem ORep.keeps {g g' : G} {H H' : Heap} {k k' : Nat} {w w' : World} {n : Nat} {o : AObj} (h : Keeps g H k g' H' k') (hρ : g'.ρ n = g.ρ n)
    (hw : ∀ b, (g.ρ n).blk = some b → w'.heap[b]? = w.heap[b]?) (hx : ORep g H k n w o) : ORep g' H' k' n w' o := by
  cases o with
  | cells cs =>
    simp only [ORep] at *
    obtain ⟨b, vs, t, h1, h2, h3⟩ := hx
    exact ⟨b, vs, t, by rw [hρ]; exact h1, by rw [hw b h1]; exact h2, ARepL.keeps h _ _ h3⟩
  | slice rows =>
    simp only [ORep] at *
    rw [hρ]
    obtain ⟨h1, h2, h3, h4, h6, h5⟩ := hx
    refine ⟨h1, h2, h3, h4, h6, fun b hb => ?_⟩
    obtain ⟨cs, t, vals, a1, a2, a3, a4, a5⟩ := h5 b hb
    exact ⟨cs, t, vals, by rw [hw b hb]; exact a1, a2, PRepLL.mono h.fz _ _ a3, a4, a5⟩
  | map es =>
    simp only [ORep] at *
    obtain ⟨b, ms, c, h1, h2, h3, h4⟩ := hx
    exact ⟨b, ms, c, by rw [hρ]; exact h1, by rw [hw b h1]; exact h2, MRep.mono h.fz (Nat.le_refl _) _ _ h3, h4⟩

/-! ### Heaps as lists -/
theorem Heap.get_set (H : Heap) (n m : Nat) (x : AObj) : (H.set n x).get m = if n = m ∧ H.get n ≠ none then some x else H.get m := by
  induction H with
  | nil => simp [Heap.set, Heap.get]
  | cons a H ih =>
    obtain ⟨k, o⟩ := a
    simp only [Heap.set]
    by_cases hk : k = n
    · subst hk
      simp only [if_true, Heap.get]
      by_cases hm : k = m <;> simp [hm]
    · simp only [if_neg hk, Heap.get, ih]
      by_cases hm : k = m
      · subst hm; simp; intro e; exact absurd e.symm hk
      · simp [hm]
theorem Heap.get_del (H : Heap) (n m : Nat) : (H.del n).get m = if n = m then none else H.get m := by
  induction H with
  | nil => simp [Heap.del, Heap.get]
  | cons a H ih =>
    obtain ⟨k, o⟩ := a
    simp only [Heap.del]
    by_cases hk : k = n
    · subst hk
      simp only [if_true, ih, Heap.get]
      by_cases hm : k = m <;> simp [hm]
    · simp only [if_neg hk, Heap.get, ih]
      by_cases hm : k = m
      · subst hm; simp; intro e; exact absurd e.symm hk
      · simp [hm]
theorem Heap.get_append (H H' : Heap) (n : Nat) : Heap.get (H ++ H') n = (Heap.get H n).or (Heap.get H' n) := by
  induction H with
  | nil => simp [Heap.get]
  | cons a H ih =>
    obtain ⟨k, o⟩ := a
    simp only [List.cons_append, Heap.get, ih]
    by_cases hk : k = n <;> simp [hk]

theorem PRepL.length {fz : Nat → Option Obj} : ∀ {xs : List PV} {vs : List Value}, PRepL fz xs vs → vs.length = xs.length
  | [], _, h => by simp only [PRepL] at h; simp [h]
  | x :: xs, _, h => by
    simp only [PRepL] at h
    obtain ⟨v, r, rfl, _, h2⟩ := h
    simp [PRepL.length h2]
theorem PRepLL.length {fz : Nat → Option Obj} : ∀ {xs : List (List PV)} {vs : List (List Value)}, PRepLL fz xs vs → vs.length = xs.length
  | [], _, h => by simp only [PRepLL] at h; simp [h]
  | x :: xs, _, h => by
    simp only [PRepLL] at h
    obtain ⟨v, r, rfl, _, h2⟩ := h
    simp [PRepLL.length h2]
theorem ARepL.length {g : G} {H : Heap} {k : Nat} : ∀ {xs : List AV} {vs : List Value}, ARepL g H k xs vs → vs.length = xs.length
  | [], _, h => by simp only [ARepL] at h; simp [h]
  | x :: xs, _, h => by
    simp only [ARepL] at h
    obtain ⟨v, r, rfl, _, h2⟩ := h
    simp [ARepL.length h2]
theorem PRepL.get {fz : Nat → Option Obj} : ∀ {xs : List PV} {vs : List Value}, PRepL fz xs vs → ∀ {i : Nat} {x : PV}, xs[i]? = some x → ∃ v, vs[i]? = some v ∧ PRep fz x v
  | [], _, _, _, _, hi => by simp at hi
  | x :: xs, _, h, i, y, hi => by
    simp only [PRepL] at h
    obtain ⟨v, r, rfl, h1, h2⟩ := h
    cases i with
    | zero => simp at hi; subst hi; exact ⟨v, by simp, h1⟩
    | succ i => simp at hi; simpa using PRepL.get h2 hi
theorem PRepLL.get {fz : Nat → Option Obj} : ∀ {xs : List (List PV)} {vs : List (List Value)}, PRepLL fz xs vs → ∀ {i : Nat} {x : List PV}, xs[i]? = some x → ∃ v, vs[i]? = some v ∧ PRepL fz x v
  | [], _, _, _, _, hi => by simp at hi
  | x :: xs, _, h, i, y, hi => by
    simp only [PRepLL] at h
    obtain ⟨v, r, rfl, h1, h2⟩ := h
    cases i with
    | zero => simp at hi; subst hi; exact ⟨v, by simp, h1⟩
    | succ i => simp at hi; simpa using PRepLL.get h2 hi
theorem ARepL.get {g : G} {H : Heap} {k : Nat} : ∀ {xs : List AV} {vs : List Value}, ARepL g H k xs vs → ∀ {i : Nat} {x : AV}, xs[i]? = some x → ∃ v, vs[i]? = some v ∧ ARep g H k x v
  | [], _, _, _, _, hi => by simp at hi
  | x :: xs, _, h, i, y, hi => by
    simp only [ARepL] at h
    obtain ⟨v, r, rfl, h1, h2⟩ := h
    cases i with
    | zero => simp at hi; subst hi; exact ⟨v, by simp, h1⟩
    | succ i => simp at hi; simpa using ARepL.get h2 hi
theorem PRepL.drop {fz : Nat → Option Obj} : ∀ {xs : List PV} {vs : List Value}, PRepL fz xs vs → ∀ n, PRepL fz (xs.drop n) (vs.drop n)
  | [], _, h, n => by simp only [PRepL] at h; simp [h, PRepL]
  | x :: xs, _, h, n => by
    cases n with
    | zero => simpa using h
    | succ n =>
      simp only [PRepL] at h
      obtain ⟨v, r, rfl, h1, h2⟩ := h
      simpa using PRepL.drop h2 n
theorem PRepL.take {fz : Nat → Option Obj} : ∀ {xs : List PV} {vs : List Value}, PRepL fz xs vs → ∀ n, PRepL fz (xs.take n) (vs.take n)
  | [], _, h, n => by simp only [PRepL] at h; simp [h, PRepL]
  | x :: xs, _, h, n => by
    cases n with
    | zero => simp [PRepL]
    | succ n =>
      simp only [PRepL] at h
      obtain ⟨v, r, rfl, h1, h2⟩ := h
      simp only [List.take_succ_cons, PRepL]
      exact ⟨v, _, rfl, h1, PRepL.take h2 n⟩
theorem PRepLL.drop {fz : Nat → Option Obj} : ∀ {xs : List (List PV)} {vs : List (List Value)}, PRepLL fz xs vs → ∀ n, PRepLL fz (xs.drop n) (vs.drop n)
  | [], _, h, n => by simp only [PRepLL] at h; simp [h, PRepLL]
  | x :: xs, _, h, n => by
    cases n with
    | zero => simpa using h
    | succ n =>
      simp only [PRepLL] at h
      obtain ⟨v, r, rfl, h1, h2⟩ := h
      simpa using PRepLL.drop h2 n
theorem PRepLL.take' {fz : Nat → Option Obj} : ∀ {xs : List (List PV)} {vs : List (List Value)}, PRepLL fz xs vs → ∀ n, PRepLL fz (xs.take n) (vs.take n)
  | [], _, h, n => by simp only [PRepLL] at h; simp [h, PRepLL]
  | x :: xs, _, h, n => by
    cases n with
    | zero => simp [PRepLL]
    | succ n =>
      simp only [PRepLL] at h
      obtain ⟨v, r, rfl, h1, h2⟩ := h
      simp only [List.take_succ_cons, PRepLL]
      exact ⟨v, _, rfl, h1, PRepLL.take' h2 n⟩
theorem ARepL.drop {g : G} {H : Heap} {k : Nat} : ∀ {xs : List AV} {vs : List Value}, ARepL g H k xs vs → ∀ n, ARepL g H k (xs.drop n) (vs.drop n)
  | [], _, h, n => by simp only [ARepL] at h; simp [h, ARepL]
  | x :: xs, _, h, n => by
    cases n with
    | zero => simpa using h
    | succ n =>
      simp only [ARepL] at h
      obtain ⟨v, r, rfl, h1, h2⟩ := h
      simpa using ARepL.drop h2 n
theorem ARepL.take {g : G} {H : Heap} {k : Nat} : ∀ {xs : List AV} {vs : List Value}, ARepL g H k xs vs → ∀ n, ARepL g H k (xs.take n) (vs.take n)
  | [], _, h, n => by simp only [ARepL] at h; simp [h, ARepL]
  | x :: xs, _, h, n => by
    cases n with
    | zero => simp [ARepL]
    | succ n =>
      simp only [ARepL] at h
      obtain ⟨v, r, rfl, h1, h2⟩ := h
      simp only [List.take_succ_cons, ARepL]
      exact ⟨v, _, rfl, h1, ARepL.take h2 n⟩
theorem ARepL.append {g : G} {H : Heap} {k : Nat} : ∀ {xs : List AV} {vs : List Value}, ARepL g H k xs vs → ∀ {ys : List AV} {us : List Value}, ARepL g H k ys us → ARepL g H k (xs ++ ys) (vs ++ us)
  | [], _, h, _, _, h' => by simp only [ARepL] at h; simpa [h] using h'
  | x :: xs, _, h, ys, us, h' => by
    simp only [ARepL] at h
    obtain ⟨v, r, rfl, h1, h2⟩ := h
    simp only [List.cons_append, ARepL]
    exact ⟨v, _, rfl, h1, ARepL.append h2 h'⟩
theorem PRepLL.append {fz : Nat → Option Obj} : ∀ {xs : List (List PV)} {vs : List (List Value)}, PRepLL fz xs vs → ∀ {ys : List (List PV)} {us : List (List Value)}, PRepLL fz ys us → PRepLL fz (xs ++ ys) (vs ++ us)
  | [], _, h, _, _, h' => by simp only [PRepLL] at h; simpa [h] using h'
  | x :: xs, _, h, ys, us, h' => by
    simp only [PRepLL] at h
    obtain ⟨v, r, rfl, h1, h2⟩ := h
    simp only [List.cons_append, PRepLL]
    exact ⟨v, _, rfl, h1, PRepLL.append h2 h'⟩
theorem ARepL.set {g : G} {H : Heap} {k : Nat} : ∀ {xs : List AV} {vs : List Value}, ARepL g H k xs vs → ∀ {x : AV} {v : Value}, ARep g H k x v → ∀ n, ARepL g H k (xs.set n x) (vs.set n v)
  | [], _, h, _, _, _, n => by simp only [ARepL] at h; simp [h, ARepL]
  | x :: xs, _, h, y, u, hy, n => by
    simp only [ARepL] at h
    obtain ⟨v, r, rfl, h1, h2⟩ := h
    cases n with
    | zero => simp only [List.set_cons_zero, ARepL]; exact ⟨_, _, rfl, hy, h2⟩
    | succ n => simp only [List.set_cons_succ, ARepL]; exact ⟨_, _, rfl, h1, ARepL.set h2 hy n⟩
theorem ARepL.ofP {g : G} {H : Heap} {k : Nat} : ∀ {xs : List PV} {vs : List Value}, ARepL g H k (xs.map .p) vs ↔ PRepL g.fz xs vs
  | [], _ => by simp [ARepL, PRepL]
  | x :: xs, vs => by
    simp only [List.map_cons, ARepL, PRepL, ARep]
    constructor
    · rintro ⟨v, r, e, h1, h2⟩; exact ⟨v, r, e, h1, ARepL.ofP.1 h2⟩
    · rintro ⟨v, r, e, h1, h2⟩; exact ⟨v, r, e, h1, ARepL.ofP.2 h2⟩
end Go.Abs
