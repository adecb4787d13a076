/-
  Abs, part 17: regions whose order is open: it is enough to walk them in the order of the text, if each operation's result is determined.
-/
import Derived.Test.YtjjhmldeammecaaA16
import Derived.Orders
namespace Go.Abs
open Go

variable {P : Program}

/-! ### What an operation hangs on -/
theorem fillA_congr {ev ev' : RX → AV} : ∀ (l : List (Nat × Nat × RX)) (cs : List AV), (∀ x ∈ l.map (·.2.2), ev x = ev' x) → fillA ev l cs = fillA ev' l cs
  | [], _, _ => rfl
  | (off, n, x) :: r, cs, h => by
    have h1 := h x (by simp)
    have h2 := fun cs => fillA_congr r cs (fun y hy => h y (List.mem_cons_of_mem _ hy))
    simp only [fillA, h1, h2]
theorem fillRows_congr {ev ev' : RX → AV} (w : Nat) : ∀ (l : List (Nat × RX)) (cs : List (List PV)), (∀ x ∈ l.map (·.2), ev x = ev' x) → fillRows ev w l cs = fillRows ev' w l cs
  | [], _, _ => rfl
  | (i, x) :: r, cs, h => by
    have h1 := h x (by simp)
    have h2 := fun cs => fillRows_congr w r cs (fun y hy => h y (List.mem_cons_of_mem _ hy))
    simp only [fillRows, h1, h2]
theorem mapM_congr' {α β : Type} {f f' : α → Option β} : ∀ (l : List α), (∀ x ∈ l, f x = f' x) → l.mapM f = l.mapM f'
  | [], _ => rfl
  | x :: l, h => by
    rw [List.mapM_cons, List.mapM_cons, h x (by simp), mapM_congr' l fun y hy => h y (List.mem_cons_of_mem _ hy)]

theorem aop_congr {ev ev' : RX → AV} (op : ROp) (H : Heap) (k : Nat) (h : ∀ x ∈ op.xs, ev x = ev' x) : aop op ev H k = aop op ev' H k := by
  cases op
  case build zero parts => simp only [aop, fillA_congr parts _ h]
  case bslice w zero len parts => simp only [aop, fillRows_congr w parts _ h]
  case min l => simp only [aop, mapM_congr' l (fun x hx => show aint64 (ev x) = aint64 (ev' x) by rw [h x hx])]
  case max l => simp only [aop, mapM_congr' l (fun x hx => show aint64 (ev x) = aint64 (ev' x) by rw [h x hx])]
  case mkf f a b =>
    have h1 : a.map ev = a.map ev' := List.map_congr_left fun x hx => h x (List.mem_append_left _ hx)
    have h2 : b.map ev = b.map ev' := List.map_congr_left fun x hx => h x (List.mem_append_right _ hx)
    simp only [aop, h1, h2]
  case ssl x lo hi => cases lo <;> cases hi <;> simp [ROp.xs] at h <;> simp only [aop, bnd, h]
  case lsl w x lo hi => cases lo <;> cases hi <;> simp [ROp.xs] at h <;> simp only [aop, bnd, h]
  all_goals
    simp only [ROp.xs, List.mem_cons, List.not_mem_nil, or_false, forall_eq_or_imp, forall_eq, false_implies, implies_true] at h
    first
      | (simp only [aop, h]; done)
      | (simp only [aop]; done)

theorem aop_quiet {ev : RX → AV} {op : ROp} (hq : op.quiet = true) {H H' : Heap} {k k' : Nat} {v : AV} (h : aop op ev H k = some (v, H', k')) : H' = H ∧ k' = k ∧ ∀ H2 k2, aop op ev H2 k2 = some (v, H2, k2) := by
  cases op <;> simp only [ROp.quiet, Bool.false_eq_true] at hq
  case eqv neg ks x y =>
    simp only [aop] at h ⊢
    split at h
    · rename_i a b _ _
      cases he : cellsEq ks a b <;> simp_all
    · cases h
  all_goals
    simp only [aop] at h ⊢
    (repeat' split at h) <;> simp_all [Option.map_eq_some_iff]
  all_goals
    (try obtain ⟨z, h1, h2⟩ := h)
    simp_all

theorem aop_still {ev : RX → AV} {op : ROp} (hq : op.moves = false) {H H' : Heap} {k k' : Nat} {v : AV} (h : aop op ev H k = some (v, H', k')) : H' = H ∧ k' = k := by
  cases op <;> simp only [ROp.moves, Bool.true_eq_false] at hq
  case eqv neg ks x y =>
    simp only [aop] at h
    split at h
    · rename_i a b _ _
      cases he : cellsEq ks a b <;> simp_all
    · cases h
  all_goals
    simp only [aop] at h
    (repeat' split at h) <;> simp_all [Option.map_eq_some_iff]
  all_goals
    (try obtain ⟨z, h1, h2⟩ := h)
    simp_all

/-! ### Runs whose results are determined -/
def stepS (P : Program) (o : LOp) (st : St) (v : AV) (H : Heap) (k : Nat) : Prop :=
  (o.op.moves = false → H = st.H ∧ k = st.k) ∧
  match o.g with
  | none => vOp P o.op st (fun v' H' k' => v' = v ∧ H' = H ∧ k' = k)
  | some (d, b) => match st.env.get d with
    | .p (.c (.bool x)) => (x = b → vOp P o.op st (fun v' H' k' => v' = v ∧ H' = H ∧ k' = k)) ∧ (x ≠ b → v = .tup [] ∧ H = st.H ∧ k = st.k)
    | .tup _ => v = .tup [] ∧ H = st.H ∧ k = st.k
    | _ => False

def vS (P : Program) : List LOp → St → (St → Prop) → Prop
  | [], st, Q => Q st
  | o :: r, st, Q => ∃ v H k, stepS P o st v H k ∧ vS P r (St.put ⟨st.env, H, k⟩ o.dst v) Q

structure St.Same (s s' : St) : Prop where
  env : ∀ t, s.env.get t = s'.env.get t
  H : s.H = s'.H
  k : s.k = s'.k

theorem St.put_H (s : St) (d : Option Nat) (v : AV) : (s.put d v).H = s.H := by cases d <;> rfl
theorem St.put_k (s : St) (d : Option Nat) (v : AV) : (s.put d v).k = s.k := by cases d <;> rfl
theorem St.put_get (s : St) (d : Option Nat) (v : AV) (t : Nat) : (s.put d v).env.get t = if d = some t then v else s.env.get t := by
  cases d with
  | none => simp [St.put]
  | some d => simp [St.put, Env.get]

theorem ev_of_get {s s' : St} {x : RX} (h : ∀ t, x = .t t → s.env.get t = s'.env.get t) : s.ev x = s'.ev x := by
  cases x with
  | t n => exact h n rfl
  | k x => rfl
  | f fn => rfl

theorem vOp_congr {op : ROp} {s s' : St} {K : AV → Heap → Nat → Prop} (he : ∀ x ∈ op.xs, s.ev x = s'.ev x) (hH : s.H = s'.H) (hk : s.k = s'.k) (h : vOp P op s K) : vOp P op s' K := by
  have key : aop op s.ev s.H s.k = aop op s'.ev s'.H s'.k := by rw [hH, hk]; exact aop_congr op _ _ he
  cases op
  case call f args =>
    have : args.map s.ev = args.map s'.ev := List.map_congr_left he
    simp only [vOp, this, hH, hk] at h ⊢; exact h
  case callv x args =>
    have h1 : args.map s.ev = args.map s'.ev := List.map_congr_left fun y hy => he y (List.mem_cons_of_mem _ hy)
    have h2 : s.ev x = s'.ev x := he x (List.mem_cons_self ..)
    simp only [vOp, h1, h2, hH, hk] at h ⊢; exact h
  case snil neg x =>
    have h2 : s.ev x = s'.ev x := he x (List.mem_cons_self ..)
    simp only [vOp, h2, hH, hk] at h ⊢; exact h
  all_goals
    simp only [vOp, key] at h ⊢
    exact h

theorem vOp_quiet {op : ROp} (hq : op.quiet = true) {s s' : St} {v : AV} {H : Heap} {k : Nat} (he : ∀ x ∈ op.xs, s.ev x = s'.ev x) (h : vOp P op s (fun v' H' k' => v' = v ∧ H' = H ∧ k' = k)) :
    vOp P op s' (fun v' H' k' => v' = v ∧ H' = s'.H ∧ k' = s'.k) := by
  have key : ∀ v H k, aop op s.ev s.H s.k = some (v, H, k) → aop op s'.ev s'.H s'.k = some (v, s'.H, s'.k) := fun v H k h => by
    rw [← aop_congr op _ _ he]; exact (aop_quiet hq h).2.2 _ _
  cases op <;> simp only [ROp.quiet, Bool.false_eq_true] at hq
  all_goals
    simp only [vOp] at h ⊢
    split at h
    · rename_i v1 H1 k1 e
      rw [key _ _ _ e]
      exact ⟨h.1, rfl, rfl⟩
    · exact h.elim

theorem quiet_still {op : ROp} (h : op.quiet = true) : op.moves = false := by cases op <;> simp_all [ROp.quiet, ROp.moves]

theorem looks_ev {o : LOp} {s s' : St} (h : ∀ t ∈ o.looks, s.env.get t = s'.env.get t) : ∀ x ∈ o.op.xs, s.ev x = s'.ev x := fun x hx =>
  ev_of_get fun t ht => h t (List.mem_append_left _ (List.mem_filterMap.2 ⟨x, hx, by rw [ht]⟩))

theorem stepS_congr {o : LOp} {s s' : St} {v : AV} {H : Heap} {k : Nat} (he : ∀ t ∈ o.looks, s.env.get t = s'.env.get t) (hH : s.H = s'.H) (hk : s.k = s'.k) (h : stepS P o s v H k) : stepS P o s' v H k := by
  obtain ⟨h0, h1⟩ := h
  refine ⟨fun hm => by rw [← hH, ← hk]; exact h0 hm, ?_⟩
  cases hg : o.g with
  | none => rw [hg] at h1; exact vOp_congr (looks_ev he) hH hk h1
  | some db =>
    obtain ⟨d, b⟩ := db
    rw [hg] at h1
    have hd : s.env.get d = s'.env.get d := he d (List.mem_append_right _ (by simp [hg]))
    simp only [← hd, ← hH, ← hk] at h1 ⊢
    split at h1
    · exact ⟨fun e => vOp_congr (looks_ev he) hH hk (h1.1 e), h1.2⟩
    · exact h1
    · exact h1.elim

theorem stepS_quiet {o : LOp} (hq : o.op.quiet = true) {s s' : St} {v : AV} {H : Heap} {k : Nat} (he : ∀ t ∈ o.looks, s.env.get t = s'.env.get t) (h : stepS P o s v H k) : stepS P o s' v s'.H s'.k := by
  obtain ⟨h0, h1⟩ := h
  refine ⟨fun _ => ⟨rfl, rfl⟩, ?_⟩
  cases hg : o.g with
  | none => rw [hg] at h1; exact vOp_quiet hq (looks_ev he) h1
  | some db =>
    obtain ⟨d, b⟩ := db
    rw [hg] at h1
    have hd : s.env.get d = s'.env.get d := he d (List.mem_append_right _ (by simp [hg]))
    simp only [← hd] at h1 ⊢
    split at h1
    · exact ⟨fun e => vOp_quiet hq (looks_ev he) (h1.1 e), fun e => by simp [(h1.2 e).1]⟩
    · simp [h1.1]
    · exact h1.elim

theorem vS_congr {Q : St → Prop} (hQ : ∀ s s', St.Same s s' → Q s → Q s') : ∀ {l : List LOp} {s s' : St}, St.Same s s' → vS P l s Q → vS P l s' Q
  | [], _, _, hs, h => hQ _ _ hs h
  | o :: r, s, s', hs, ⟨v, H, k, h1, h2⟩ => ⟨v, H, k, stepS_congr (fun t _ => hs.env t) hs.H hs.k h1, vS_congr hQ (s := St.put ⟨s.env, H, k⟩ o.dst v) ⟨fun t => by simp only [St.put_get, hs.env t], by simp only [St.put_H], by simp only [St.put_k]⟩ h2⟩

theorem vS_mono {Q Q' : St → Prop} (hq : ∀ s, Q s → Q' s) : ∀ {l : List LOp} {st : St}, vS P l st Q → vS P l st Q'
  | [], _, h => hq _ h
  | _ :: _, _, ⟨v, H, k, h1, h2⟩ => ⟨v, H, k, h1, vS_mono hq h2⟩

theorem vS_swap {a b : LOp} {l : List LOp} {s : St} {Q : St → Prop} (hQ : ∀ s s', St.Same s s' → Q s → Q s') (hab : a.apart b = true) (h : vS P (a :: b :: l) s Q) : vS P (b :: a :: l) s Q := by
  obtain ⟨va, Ha, ka, s1, vb, Hb, kb, s2, h2⟩ := h
  simp only [LOp.apart, Bool.and_eq_true, Bool.or_eq_true, Bool.not_eq_true'] at hab
  obtain ⟨⟨⟨d1, d2⟩, m1⟩, m2⟩ := hab
  have e1 : ∀ t ∈ b.looks, (St.put ⟨s.env, Ha, ka⟩ a.dst va).env.get t = s.env.get t := fun t ht => by
    rw [St.put_get, if_neg]
    intro e
    rw [e] at d1
    simp only [Bool.and_eq_true, Bool.not_eq_true', List.contains_eq_mem, decide_eq_false_iff_not] at d1
    exact d1.1 ht
  have e2 : ∀ (H : Heap) (k : Nat), ∀ t ∈ a.looks, s.env.get t = (St.put ⟨s.env, H, k⟩ b.dst vb).env.get t := fun H k t ht => by
    rw [St.put_get, if_neg]
    intro e
    rw [e] at d2
    simp only [Bool.not_eq_true', List.contains_eq_mem, decide_eq_false_iff_not] at d2
    exact d2 ht
  have hne : ∀ t, a.dst = some t → b.dst ≠ some t := fun t e e' => by
    rw [e] at d1
    simp [e'] at d1
  have fin : ∀ (H1 H2 H : Heap) (k1 k2 k : Nat), St.Same (St.put ⟨(St.put ⟨s.env, H1, k1⟩ a.dst va).env, H, k⟩ b.dst vb) (St.put ⟨(St.put ⟨s.env, H2, k2⟩ b.dst vb).env, H, k⟩ a.dst va) := fun H1 H2 H k1 k2 k =>
    ⟨fun t => by
      simp only [St.put_get]
      by_cases ea : a.dst = some t
      · simp [ea, hne t ea]
      · simp [ea], by simp only [St.put_H], by simp only [St.put_k]⟩
  by_cases qa : a.op.moves = true
  · have qb : b.op.quiet = true := by simpa [qa] using m1
    have hb := s2.1 (quiet_still qb)
    rw [St.put_H, St.put_k] at hb
    refine ⟨vb, s.H, s.k, stepS_quiet qb e1 s2, va, Hb, kb, ?_, vS_congr hQ (fin _ _ _ _ _ _) h2⟩
    rw [hb.1, hb.2]
    exact stepS_congr (e2 _ _) (by rw [St.put_H]) (by rw [St.put_k]) s1
  · have ha := s1.1 (by simpa using qa)
    have sb : stepS P b s vb Hb kb := stepS_congr e1 (by rw [St.put_H, ha.1]) (by rw [St.put_k, ha.2]) s2
    refine ⟨vb, Hb, kb, sb, va, Hb, kb, ?_, vS_congr hQ (fin _ _ _ _ _ _) h2⟩
    by_cases qb : b.op.moves = true
    · have qa' : a.op.quiet = true := by simpa [qb] using m2
      have := stepS_quiet qa' (e2 Hb kb) s1
      rwa [St.put_H, St.put_k] at this
    · have hb := s2.1 (by simpa using qb)
      rw [St.put_H, St.put_k] at hb
      have := stepS_congr (e2 Hb kb) (by rw [St.put_H, hb.1, ha.1]) (by rw [St.put_k, hb.2, ha.2]) s1
      rw [show Hb = Ha from hb.1, show kb = ka from hb.2] at this ⊢
      exact this

theorem vS_front {Q : St → Prop} (hQ : ∀ s s', St.Same s s' → Q s → Q s') {b : LOp} {l2 : List LOp} : ∀ {l1 : List LOp} {s : St}, (∀ a ∈ l1, a.apart b = true) → vS P (l1 ++ b :: l2) s Q → vS P (b :: (l1 ++ l2)) s Q
  | [], _, _, h => h
  | a :: l1, s, hl, ⟨v, H, k, h1, h2⟩ => by
    refine vS_swap hQ (hl a (by simp)) ?_
    exact ⟨v, H, k, h1, vS_front hQ (fun x hx => hl x (List.mem_cons_of_mem _ hx)) h2⟩

/-! ### What is sure to come before -/
theorem fold_mask (acc : Array Nat) (j : Nat) : ∀ (es : List Edge) (m : Nat), (es.foldl (fun m e => if Region.binds .any e then m ||| 2 ^ e.on ||| acc.getD e.on 0 else m) m).testBit j = true →
    m.testBit j = true ∨ ∃ e ∈ es, Region.binds .any e = true ∧ (e.on = j ∨ (acc.getD e.on 0).testBit j = true)
  | [], m, h => .inl h
  | e :: es, m, h => by
    rw [List.foldl_cons] at h
    rcases fold_mask acc j es _ h with h | ⟨e', h1, h2⟩
    · split at h
      · rename_i hb
        simp only [Nat.testBit_or, Bool.or_eq_true, Nat.testBit_two_pow, decide_eq_true_eq] at h
        rcases h with (h | h) | h
        · exact .inl h
        · exact .inr ⟨e, by simp, hb, .inl h⟩
        · exact .inr ⟨e, by simp, hb, .inr h⟩
      · exact .inl h
    · exact .inr ⟨e', List.mem_cons_of_mem _ h1, h2⟩

theorem masks_ok : ∀ (l : List Oper) (acc : Array Nat), (∀ i, i < acc.size → (masks l acc).getD i 0 = acc.getD i 0) ∧
    ∀ i o, l[i]? = some o → ∀ j, ((masks l acc).getD (acc.size + i) 0).testBit j = true → ∃ e ∈ o.after, Region.binds .any e = true ∧ (e.on = j ∨ ((masks l acc).getD e.on 0).testBit j = true)
  | [], acc => ⟨fun _ _ => rfl, fun i o h => by simp at h⟩
  | o :: l, acc => by
    have ih := masks_ok l (acc.push (o.after.foldl (fun m e => if Region.binds .any e then m ||| 2 ^ e.on ||| acc.getD e.on 0 else m) 0))
    have e0 : masks (o :: l) acc = masks l (acc.push (o.after.foldl (fun m e => if Region.binds .any e then m ||| 2 ^ e.on ||| acc.getD e.on 0 else m) 0)) := rfl
    rw [← e0] at ih
    have low : ∀ i, i < acc.size → (masks (o :: l) acc).getD i 0 = acc.getD i 0 := fun i hi => by
      rw [ih.1 i (by simp; omega)]
      simp [Array.getD_eq_getD_getElem?, Array.getElem?_push, Nat.ne_of_lt hi]
    refine ⟨low, fun i o' ho j hj => ?_⟩
    cases i with
    | zero =>
      simp only [List.getElem?_cons_zero, Option.some.injEq] at ho
      subst ho
      rw [Nat.add_zero, ih.1 _ (by simp)] at hj
      simp only [Array.getD_eq_getD_getElem?, Array.getElem?_push_size, Option.getD_some] at hj
      rw [← Array.foldl_toList] at hj
      have hj' : (o.after.toList.foldl (fun m e => if Region.binds .any e then m ||| 2 ^ e.on ||| acc.getD e.on 0 else m) 0).testBit j = true := by
        simpa [Array.getD_eq_getD_getElem?] using hj
      rcases fold_mask acc j _ _ hj' with h | ⟨e, h1, h2, h3⟩
      · simp at h
      · refine ⟨e, by simpa using h1, h2, h3.imp id fun h => ?_⟩
        have hlt : e.on < acc.size := by
          rcases Nat.lt_or_ge e.on acc.size with h' | h'
          · exact h'
          · rw [Array.getD_eq_getD_getElem?, Array.getElem?_eq_none h'] at h; simp at h
        rw [low _ hlt]; exact h
    | succ i =>
      have := ih.2 i o' (by simpa using ho) j (by simpa [Nat.add_assoc, Nat.add_comm 1] using hj)
      exact this
end Go.Abs
