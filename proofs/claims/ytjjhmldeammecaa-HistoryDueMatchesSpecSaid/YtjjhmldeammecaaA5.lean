/-
  Abs, part 5: what an operation does to an abstract state it does in the world (reads, numbers, boxes, structs).
-/
import Derived.Test.YtjjhmldeammecaaA4
import Derived.Laws.StructEq
import Derived.Laws.Append
import Derived.Laws.MakeOwn
namespace Go.Abs
open Go

variable {P : Program}

theorem add_none (b off n : Nat) : (⟨b, off, none⟩ : Addr).add n = ⟨b, off + n, none⟩ := by
  unfold Addr.add; split <;> simp_all

/-! ### Operands -/
theorem ofFlat_rep {fz : Nat → Option Obj} {v : Value} {x : PV} (h : PV.ofFlat v = some x) : PRep fz x v := by
  unfold PV.ofFlat at h
  split at h
  · cases h; simp [PRep]
  · cases h
theorem ofFlats_rep {fz : Nat → Option Obj} : ∀ {vs : List Value} {xs : List PV}, vs.mapM PV.ofFlat = some xs → PRepL fz xs vs
  | [], xs, h => by simp at h; subst h; simp [PRepL]
  | v :: vs, xs, h => by
    simp only [List.mapM_cons, Option.bind_eq_bind, Option.bind_eq_some_iff, Option.pure_def, Option.some.injEq] at h
    obtain ⟨x, h1, ys, h2, rfl⟩ := h
    simp only [PRepL]
    exact ⟨v, vs, rfl, ofFlat_rep h1, ofFlats_rep h2⟩
theorem ofValue_rep {fz : Nat → Option Obj} {v : Value} {x : PV} (h : PV.ofValue v = some x) : PRep fz x v := by
  unfold PV.ofValue at h
  split at h
  · rename_i cs
    simp only [Option.map_eq_some_iff] at h
    obtain ⟨xs, h1, rfl⟩ := h
    simp only [PRep]
    exact ⟨cs, rfl, ofFlats_rep h1⟩
  · exact ofFlat_rep h

theorem lowX_rep {g : G} {H : Heap} {k : Nat} {env : Env} {a : Act} (he : ∀ t, ARep g H k (env.get t) (a.tmps.getD t undef)) {x : Operand} {y : RX} (h : lowX x = some y) :
    ARep g H k (St.ev ⟨env, H, k⟩ y) (a.eval x) := by
  cases x with
  | tmp t => simp [lowX] at h; subst h; simpa [St.ev, Act.eval] using he t
  | const v =>
    simp only [lowX, Option.map_eq_some_iff] at h
    obtain ⟨x, h1, rfl⟩ := h
    simp only [St.ev, Act.eval, ARep]
    exact ofValue_rep h1
  | global n => simp [lowX] at h
  | func f => simp [lowX] at h; subst h; simp [St.ev, Act.eval, ARep, ARepL]

/-! ### Cells -/
theorem allP_map (l : List PV) : allP (l.map .p) = some l := by
  induction l with
  | nil => rfl
  | cons a l ih => simp [allP, ih]
theorem allP_some : ∀ {l : List AV} {ps : List PV}, allP l = some ps → l = ps.map .p
  | [], ps, h => by simp [allP] at h; subst h; rfl
  | x :: l, ps, h => by
    cases x <;> simp only [allP, Option.map_eq_some_iff] at h <;> try (cases h; done)
    obtain ⟨qs, h1, rfl⟩ := h
    simp [allP_some h1]
theorem ofCells_rep {g : G} {H : Heap} {k : Nat} {cs : List AV} {vs : Array Value} (h : ARepL g H k cs vs.toList) : ARep g H k (AV.ofCells cs) (.agg vs) := by
  unfold AV.ofCells
  split
  · rename_i ps hp
    have := allP_some hp
    subst this
    simp only [ARep, PRep]
    exact ⟨vs, rfl, ARepL.ofP.1 h⟩
  · simp only [ARep]
    exact ⟨vs, rfl, h⟩
theorem cutP_eq (n : Nat) (agg : Bool) (l : List PV) : cutP n agg l = cut n agg (l.map .p) := by
  unfold cutP cut
  cases agg
  · simp
  · simp only [if_true, List.length_map]
    split
    · simp only [AV.ofCells, ← List.map_take, allP_map]
    · rfl
theorem CellsAt.cell {w : World} {b : Nat} {vs : Array Value} {t : TypeId} {fr : Nat × Nat} {off : Nat} {vals : List Value} (hb : w.heap[b]? = some (.cells vs t fr)) (hc : CellsAt vs off vals)
    {j : Nat} {x : Value} (hj : vals[j]? = some x) : w.cell? ((⟨b, off, none⟩ : Addr).add j) = some x := by
  rw [add_none]
  simp [World.cell?, hb, hc j x hj]
theorem take_get {α : Type} {l : List α} {n j : Nat} {x : α} (h : (l.take n)[j]? = some x) : l[j]? = some x := by
  rw [List.getElem?_take] at h
  split at h
  · exact h
  · cases h

theorem run_sizeT {t : TypeId} {n : Nat} (h : sizeT P t = some n) (w : World) : (sizeOf t).run P w = .ok n w := by
  simp only [sizeT, Option.map_eq_some_iff] at h
  obtain ⟨i, h1, h2⟩ := h
  simp [sizeOf, typeInfo, h1, h2]
theorem run_isAggT {t : TypeId} {b : Bool} (h : isAggT P t = some b) (w : World) : (isAgg t).run P w = .ok b w := by
  simp only [isAggT, Option.map_eq_some_iff] at h
  obtain ⟨d, h1, h2⟩ := h
  cases d <;> simp_all [isAgg, run_underlying h1]

theorem load_ok {g : G} {H : Heap} {k : Nat} {w : World} {b : Nat} {vs : Array Value} {t' : TypeId} {fr : Nat × Nat} {off : Nat} {l : List AV} {vals : List Value} {v : AV} {n : Nat} {agg : Bool} {t : TypeId}
    (hb : w.heap[b]? = some (.cells vs t' fr)) (hc : CellsAt vs off vals) (hr : ARepL g H k l vals) (hn : sizeT P t = some n) (ha : isAggT P t = some agg) (hv : cut n agg l = some v) :
    ∃ x, (loadVar t ⟨b, off, none⟩).run P w = .ok x w ∧ ARep g H k v x := by
  unfold cut at hv
  cases agg with
  | true =>
    simp only [if_true] at hv
    split at hv
    · rename_i hle
      cases hv
      have hl := ARepL.length hr
      have hlen : (vals.take n).length = n := by simp; omega
      have h1 : ∀ j x, (vals.take n)[j]? = some x → w.cell? ((⟨b, off, none⟩ : Addr).add j) = some x := fun j x hj => hc.cell hb (take_get hj)
      have hrun := run_loadCells_list (P := P) w ⟨b, off, none⟩ (vals.take n) h1
      rw [hlen] at hrun
      refine ⟨.agg (vals.take n).toArray, by simp [loadVar, run_isAggT ha, run_sizeT hn, hrun], ofCells_rep ?_⟩
      simpa using hr.take n
    · cases hv
  | false =>
    simp only [Bool.false_eq_true, if_false] at hv
    obtain ⟨x, h1, h2⟩ := ARepL.get hr hv
    have := hc.cell hb h1
    rw [add_none, Nat.add_zero] at this
    exact ⟨x, by simp [loadVar, run_isAggT ha, this], h2⟩

theorem part_ok {g : G} {H : Heap} {k : Nat} {w : World} {cs : Array Value} {off : Nat} {l : List AV} {v : AV} {n : Nat} {agg : Bool} {t : TypeId}
    (hr : ARepL g H k l (cs.toList.drop off)) (hn : sizeT P t = some n) (ha : isAggT P t = some agg) (hv : cut n agg l = some v) :
    ∃ x, (part t cs off).run P w = .ok x w ∧ ARep g H k v x := by
  unfold cut at hv
  cases agg with
  | true =>
    simp only [if_true] at hv
    split at hv
    · cases hv
      refine ⟨.agg (cs.extract off (off + n)), by simp [part, run_isAggT ha, run_sizeT hn], ofCells_rep ?_⟩
      have := hr.take n
      simpa [List.extract_eq_take_drop] using this
    · cases hv
  | false =>
    simp only [Bool.false_eq_true, if_false] at hv
    obtain ⟨x, h1, h2⟩ := ARepL.get hr hv
    simp at h1
    exact ⟨x, by simp [part, run_isAggT ha, h1], h2⟩

/-! ### Values that are stored -/
theorem flat_cells {v : Value} (h : flat v = true) : v.cells = #[v] ∧ v.oneCell' = true := by
  cases v <;> first | (exact ⟨rfl, rfl⟩) | (simp [flat] at h)
theorem one_cells {v : Value} (h : v.oneCell' = true) : v.cells = #[v] := by
  cases v <;> simp_all [Value.cells, Value.oneCell']
theorem single_rep {fz : Nat → Option Obj} {x : PV} {v : Value} (h : PRep fz x v) (hx : x.single = true) : v.oneCell' = true := by
  cases x with
  | c u => simp only [PRep] at h; subst h; exact (flat_cells hx).2
  | agg cs => simp [PV.single] at hx
  | sl rows =>
    simp only [PRep] at h
    rcases h.2 with ⟨_, ba, rfl⟩ | ⟨b, off, cap, w, cs, t, fr, vals, rfl, _⟩ <;> rfl
  | ptr cells =>
    simp only [PRep] at h
    obtain ⟨b, off, cs, t, fr, vals, rfl, _⟩ := h; rfl
  | mp es =>
    simp only [PRep] at h
    obtain ⟨b, ms, c, rfl, _⟩ := h; rfl
theorem singles_rep {fz : Nat → Option Obj} : ∀ {xs : List PV} {vs : List Value}, PRepL fz xs vs → xs.all PV.single = true → ∀ v ∈ vs, v.oneCell' = true
  | [], _, h, _, v, hv => by simp only [PRepL] at h; subst h; cases hv
  | x :: xs, _, h, ha, v, hv => by
    simp only [PRepL] at h
    obtain ⟨a, r, rfl, h1, h2⟩ := h
    simp only [List.all_cons, Bool.and_eq_true] at ha
    cases hv with
    | head => exact single_rep h1 ha.1
    | tail _ hv => exact singles_rep h2 ha.2 v hv
def AV.one : AV → Bool
  | .agg _ | .tup _ | .junk => false
  | .p x => x.single
  | _ => true
theorem one_rep {g : G} {H : Heap} {k : Nat} {x : AV} {v : Value} (h : ARep g H k x v) (hx : x.one = true) : v.oneCell' = true := by
  cases x <;> simp only [ARep] at h <;> simp only [AV.one] at hx <;> try (cases hx; done)
  · exact single_rep h hx
  · exact h.2.1
  · exact h.2.1
  · exact h.2.1
  · exact h.2.1
  · obtain ⟨a, b, rfl, _⟩ := h; rfl
  · obtain ⟨y, rfl, _⟩ := h; rfl
theorem ones_rep {g : G} {H : Heap} {k : Nat} : ∀ {xs : List AV} {vs : List Value}, ARepL g H k xs vs → (∀ x ∈ xs, x.one = true) → ∀ v ∈ vs, v.oneCell' = true
  | [], _, h, _, v, hv => by simp only [ARepL] at h; subst h; cases hv
  | x :: xs, _, h, ha, v, hv => by
    simp only [ARepL] at h
    obtain ⟨a, r, rfl, h1, h2⟩ := h
    cases hv with
    | head => exact one_rep h1 (ha x (by simp))
    | tail _ hv => exact ones_rep h2 (fun y hy => ha y (by simp [hy])) v hv
theorem cells_rep {g : G} {H : Heap} {k : Nat} {x : AV} {v : Value} {l : List AV} (h : ARep g H k x v) (hx : x.cells = some l) : ARepL g H k l v.cells.toList ∧ ∀ c ∈ v.cells.toList, c.oneCell' = true := by
  have key : ∀ y : AV, ARep g H k y v → y.one = true → l = [y] → ARepL g H k l v.cells.toList ∧ ∀ c ∈ v.cells.toList, c.oneCell' = true := by
    intro y hy h1 hl
    subst hl
    have h2 := one_rep hy h1
    rw [one_cells h2]
    simp only [ARepL]
    exact ⟨⟨v, [], rfl, hy, rfl⟩, by simpa using h2⟩
  cases x with
  | p x =>
    cases x with
    | c u =>
      simp only [AV.cells] at hx
      split at hx
      · rename_i hu
        cases hx
        exact key _ h (by simpa [AV.one] using hu) rfl
      · cases hx
    | sl rows =>
      simp only [AV.cells] at hx
      split at hx
      · cases hx; exact key _ h rfl rfl
      · cases hx
    | ptr rows =>
      simp only [AV.cells] at hx
      split at hx
      · cases hx; exact key _ h rfl rfl
      · cases hx
    | mp rows =>
      simp only [AV.cells] at hx
      split at hx
      · cases hx; exact key _ h rfl rfl
      · cases hx
    | agg cs =>
      simp only [AV.cells] at hx
      split at hx
      · rename_i hu
        cases hx
        simp only [ARep, PRep] at h
        obtain ⟨vs, rfl, h1⟩ := h
        exact ⟨ARepL.ofP.2 h1, singles_rep h1 hu⟩
      · cases hx
  | agg cs =>
    simp only [AV.cells] at hx
    split at hx
    · rename_i hu
      cases hx
      simp only [ARep] at h
      obtain ⟨vs, rfl, h1⟩ := h
      refine ⟨h1, ones_rep h1 fun y hy => ?_⟩
      have := List.all_eq_true.1 hu y hy
      cases y <;> simp_all [AV.one]
    · cases hx
  | tup cs => simp [AV.cells] at hx
  | junk => simp [AV.cells] at hx
  | bp a b => simp only [AV.cells] at hx; cases hx; exact key _ h rfl rfl
  | ep a b c d => simp only [AV.cells] at hx; cases hx; exact key _ h rfl rfl
  | os a b c => simp only [AV.cells] at hx; cases hx; exact key _ h rfl rfl
  | mp a => simp only [AV.cells] at hx; cases hx; exact key _ h rfl rfl
  | fn a b c => simp only [AV.cells] at hx; cases hx; exact key _ h rfl rfl
  | ifc a b => simp only [AV.cells] at hx; cases hx; exact key _ h rfl rfl

theorem store_ok {w : World} {b : Nat} {vs : Array Value} {t' : TypeId} {off n : Nat} {t : TypeId} {v : Value} (hb : w.heap[b]? = some (.cells vs t' (0, 0))) (hn : sizeT P t = some n) (hv : v.cells.size = n)
    (hfit : off + n ≤ vs.size) (h1 : ∀ c ∈ v.cells.toList, c.oneCell' = true) :
    (storeVar t ⟨b, off, none⟩ v).run P w = .ok () (w.setRow b (vs.toList.take off ++ v.cells.toList ++ vs.toList.drop (off + n)).toArray) := by
  have := run_storeCells_at P b off t' v.cells.toList 0 vs w hb (by simpa [hv] using hfit) h1
  simp only [Nat.add_zero] at this
  simp only [storeVar, Sem.run_bind, run_sizeT hn, Result.andThen_ok, hv, ne_eq, not_true, if_false]
  rw [show (v.cells.toList.length) = n by simpa using hv] at this
  simpa using this
end Go.Abs
