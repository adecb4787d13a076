/-
  Abs, part 18: regions whose order is open, in the world.
-/
import Derived.Test.YtjjhmldeammecaaA17
namespace Go.Abs
open Go

variable {P : Program}

theorem okDraw_parts {ops : Array Oper} {ls : List LOp} (h : okDraw P ops ls = true) : P.follows .mixedOrders = true ∧
    (∀ i o, ops[i]? = some o → ∀ e ∈ o.after, Region.binds .any e = true → e.on < i) ∧
    (∀ i j a b, i < ops.size → j < i → ls[j]? = some a → ls[i]? = some b → ((masks ops.toList #[]).getD i 0).testBit j = true ∨ a.apart b = true) := by
  simp only [okDraw, Bool.and_eq_true, List.all_eq_true, List.mem_range] at h
  obtain ⟨h1, h2⟩ := h
  refine ⟨h1, fun i o ho e he hb => ?_, fun i j a b hi hj ha hb => ?_⟩
  · have := (h2 i (Array.getElem?_eq_some_iff.1 ho).1).1
    rw [ho] at this
    simp only [Array.all_eq_true_iff_forall_mem, Bool.or_eq_true, Bool.not_eq_true', decide_eq_true_eq] at this
    rcases this e he with h | h
    · rw [hb] at h; cases h
    · exact h
  · have := (h2 i hi).2 j hj
    rw [ha, hb] at this
    simpa using this

def DownC (ops : Array Oper) (listed : Array Bool) : Prop := ∀ i o, ops[i]? = some o → listed.getD i false = true → ∀ e ∈ o.after, Region.binds .any e = true → listed.getD e.on false = true

theorem closure_ok {ops : Array Oper} {listed : Array Bool} (hd : DownC ops listed) (hlt : ∀ i o, ops[i]? = some o → ∀ e ∈ o.after, Region.binds .any e = true → e.on < i) :
    ∀ (i : Nat) (o : Oper), ops[i]? = some o → (∀ e ∈ o.after, Region.binds .any e = true → listed.getD e.on false = true) → ∀ j, ((masks ops.toList #[]).getD i 0).testBit j = true → listed.getD j false = true := by
  intro i
  induction i using Nat.strongRecOn with
  | _ i ih =>
    intro o ho hp j hj
    obtain ⟨e, h1, h2, h3⟩ := (masks_ok ops.toList #[]).2 i o (by simpa using ho) j (by simpa using hj)
    have hl := hp e h1 h2
    rcases h3 with rfl | h3
    · exact hl
    · have hlt' := hlt i o ho e h1 h2
      have hsz : e.on < ops.size := Nat.lt_trans hlt' (Array.getElem?_eq_some_iff.1 ho).1
      exact ih e.on hlt' ops[e.on] (by simp [hsz]) (fun e' h' hb' => hd e.on ops[e.on] (by simp [hsz]) hl e' h' hb') j h3

/-- One operation whose result is determined. -/
theorem stepS_ok {nt : Nat} {ops : Array Oper} (hall : ∀ o ∈ ops.toList, o.dst.all (· < nt) = true) {R : Exit → Act → World → Prop} {i : Nat} {o : Oper} {l : LOp} (ho : ops[i]? = some o) (hl : lowOper P nt ops o = some l)
    {g : G} {w : World} {st : St} {a : Act} (h1 : a.tmps.size = nt) (h3 : Sim g w st a.tmps) {v : AV} {H : Heap} {k : Nat} (hv : stepS P l st v H k) (rest : List Nat)
    (cont : ∀ x g' w', ARep g' H k v x → SimH g' w' H k → Evo g w st.H st.k g' w' H k → wpOps P ops R rest (a.put o.dst x) w') : wpOps P ops R (i :: rest) a w := by
  obtain ⟨p1, p2, p3, p4⟩ := lowOper_parts hl
  obtain ⟨_, hv⟩ := hv
  simp only [wpOps, ho]
  have cont' : ∀ v' x H' k' g' w', (v' = v ∧ H' = H ∧ k' = k) → ARep g' H' k' v' x → SimH g' w' H' k' → Evo g w st.H st.k g' w' H' k' → wpOps P ops R rest (a.put o.dst x) w' := by
    rintro v' x H' k' g' w' ⟨rfl, rfl, rfl⟩ q1 q2 q3
    exact cont x g' w' q1 q2 q3
  rcases p4 with ⟨q1, q2⟩ | ⟨j, b, d, q1, q2, q3⟩
  · rw [q2] at hv
    have hw : Region.wanted o (yielded ops a.tmps) = true := by unfold Region.wanted; rw [q1]
    rw [hw]
    exact .inl (vOp_ok p1 h3 hv _ _ cont')
  · rw [q3] at hv
    simp only at hv
    have hdlt : d < nt := by
      cases hj : ops[j]? with
      | none => simp [hj] at q2
      | some oj =>
        simp only [hj, Option.bind_some] at q2
        have := hall oj (List.mem_of_getElem? (by simpa using hj))
        simpa [q2] using this
    split at hv
    · rename_i x hx
      have hy := yielded_ok h3 h1 q2 hdlt hx
      by_cases e : x = b
      · have hw : Region.wanted o (yielded ops a.tmps) = true := by unfold Region.wanted; rw [q1]; simp [hy, e]
        rw [hw]
        exact .inl (vOp_ok p1 h3 (hv.1 e) _ _ cont')
      · have hw : Region.wanted o (yielded ops a.tmps) = false := by unfold Region.wanted; rw [q1]; simp [hy, e]
        rw [hw]
        obtain ⟨rfl, rfl, rfl⟩ := hv.2 e
        exact cont undef g w (by simp [ARep, ARepL, undef]) h3.h Evo.refl
    · rename_i l' hx
      have hy := yielded_tup h3 h1 q2 hdlt hx
      have hw : Region.wanted o (yielded ops a.tmps) = false := by unfold Region.wanted; rw [q1]; simp [hy]
      rw [hw]
      obtain ⟨rfl, rfl, rfl⟩ := hv
      exact cont undef g w (by simp [ARep, ARepL, undef]) h3.h Evo.refl
    · exact hv.elim

theorem mapM_get {α β : Type} {f : α → Option β} : ∀ {l : List α} {ys : List β}, l.mapM f = some ys → ∀ (i : Nat) (x : α), l[i]? = some x → ∃ y, ys[i]? = some y ∧ f x = some y
  | [], _, _, i, x, hx => by simp at hx
  | a :: l, ys, h, i, x, hx => by
    simp only [List.mapM_cons, Option.bind_eq_bind, Option.bind_eq_some_iff, Option.pure_def, Option.some.injEq] at h
    obtain ⟨y, h1, zs, h2, rfl⟩ := h
    cases i with
    | zero => simp at hx; subst hx; exact ⟨y, rfl, h1⟩
    | succ i => exact mapM_get h2 i x (by simpa using hx)

def remOf (n : Nat) (listed : Array Bool) : List Nat := (List.range n).filter fun i => !listed.getD i true

theorem rem_sorted (n : Nat) (listed : Array Bool) : (remOf n listed).Pairwise (· < ·) := List.Pairwise.filter _ List.pairwise_lt_range
theorem mem_rem {n i : Nat} {listed : Array Bool} : i ∈ remOf n listed ↔ i < n ∧ listed.getD i true = false := by
  simp [remOf, List.mem_filter]

theorem draw_go {nt : Nat} {ops : Array Oper} {ls : List LOp} (hls : ops.toList.mapM (lowOper P nt ops) = some ls) (hok : okDraw P ops ls = true) {Q : St → Prop} (hQ : ∀ s s', St.Same s s' → Q s → Q s') {R : Exit → Act → World → Prop} (g0 : G) (w0 : World) (H0 : Heap) (k0 : Nat)
    (hR : ∀ g w st a, Q st → a.tmps.size = nt → a.defers = [] → Sim g w st a.tmps → Evo g0 w0 H0 k0 g w st.H st.k → R .normal a w) :
    ∀ (fuel t : Nat) (listed : Array Bool) (g : G) (w : World) (st : St) (a : Act), listed.size = ops.size → (remOf ops.size listed).length ≤ fuel → DownC ops listed → a.tmps.size = nt → a.defers = [] → Sim g w st a.tmps → Evo g0 w0 H0 k0 g w st.H st.k →
      vS P ((remOf ops.size listed).filterMap (ls[·]?)) st Q → wpOps P ops R (Region.linearise.go .any ops fuel t listed []) a w := by
  obtain ⟨_, hback, hpair⟩ := okDraw_parts hok
  have hall := lowOpers_dst hls
  intro fuel
  induction fuel with
  | zero =>
    intro t listed g w st a hsz hle hd h1 h2 h3 h4 hv
    have e : remOf ops.size listed = [] := List.eq_nil_of_length_eq_zero (by omega)
    rw [e] at hv
    simp only [Region.linearise.go, List.reverse_nil, wpOps]
    exact hR g w st a hv h1 h2 h3 h4
  | succ fuel ih =>
    intro t listed g w st a hsz hle hd h1 h2 h3 h4 hv
    simp only [Region.linearise.go]
    change wpOps P ops R (match (Region.ready .any ops listed)[t % (Region.ready .any ops listed).length]? with
      | some i => Region.linearise.go .any ops fuel (t / (Region.ready .any ops listed).length) (listed.setIfInBounds i true) [i]
      | none => [].reverse) a w
    cases hi : (Region.ready .any ops listed)[t % (Region.ready .any ops listed).length]? with
    | none =>
      have hnil : Region.ready .any ops listed = [] := by
        cases hr : Region.ready .any ops listed with
        | nil => rfl
        | cons x xs =>
          rw [hr] at hi
          have hlt : t % (x :: xs).length < (x :: xs).length := Nat.mod_lt _ (by simp)
          simp at hi
          simp at hlt
          omega
      have e : remOf ops.size listed = [] := by
        cases hr : remOf ops.size listed with
        | nil => rfl
        | cons x xs =>
          exfalso
          have hx := mem_rem.1 (show x ∈ remOf ops.size listed by rw [hr]; simp)
          have hs := rem_sorted ops.size listed
          rw [hr, List.pairwise_cons] at hs
          have : x ∈ Region.ready .any ops listed := mem_ready.2 ⟨hx.2, ops[x], by simp [hx.1], fun e he hb => by
            have hlt := hback x ops[x] (by simp [hx.1]) e he hb
            cases hl : listed.getD e.on true with
            | true =>
              have hlt2 : e.on < listed.size := by rw [hsz]; omega
              simp [Array.getD_eq_getD_getElem?, hlt2] at hl ⊢
              exact hl
            | false =>
              have hmem : e.on ∈ remOf ops.size listed := mem_rem.2 ⟨by omega, hl⟩
              rw [hr] at hmem
              cases hmem with
              | head => exact absurd hlt (Nat.lt_irrefl _)
              | tail _ hm => exact absurd (hs.1 _ hm) (by omega)⟩
          rw [hnil] at this
          cases this
      rw [e] at hv
      simp only [List.reverse_nil, wpOps]
      exact hR g w st a hv h1 h2 h3 h4
    | some i =>
      simp only []
      rw [linearise_go_acc, List.reverse_singleton, List.singleton_append]
      obtain ⟨hun, o, ho, hpre⟩ := mem_ready.1 (List.mem_of_getElem? hi)
      have hin : i < ops.size := (Array.getElem?_eq_some_iff.1 ho).1
      have hmem : i ∈ remOf ops.size listed := mem_rem.2 ⟨hin, hun⟩
      obtain ⟨l1, l2, hsplit⟩ := List.append_of_mem hmem
      have hs := rem_sorted ops.size listed
      rw [hsplit, List.pairwise_append, List.pairwise_cons] at hs
      obtain ⟨hs1, ⟨hs2, hs3⟩, hs4⟩ := hs
      have hrem : remOf ops.size (listed.setIfInBounds i true) = l1 ++ l2 := by
        have e1 : remOf ops.size (listed.setIfInBounds i true) = (remOf ops.size listed).filter (· != i) := by
          simp only [remOf, List.filter_filter]
          apply List.filter_congr
          intro j hj
          by_cases hji : j = i
          · subst hji
            have : j < listed.size := by rw [hsz]; exact hin
            simp [this]
          · rw [getD_set_ne true (Ne.symm hji)]
            simp [hji]
        rw [e1, hsplit, List.filter_append, List.filter_cons_of_neg (by simp)]
        rw [List.filter_eq_self.2 (fun x hx => by have := hs4 x hx i (by simp); simp; omega), List.filter_eq_self.2 (fun x hx => by have := hs2 x hx; simp; omega)]
      obtain ⟨l, hl1, hl2⟩ := mapM_get hls i o (by simpa using ho)
      rw [hsplit, List.filterMap_append, List.filterMap_cons_some (by exact hl1)] at hv
      have hap : ∀ x ∈ l1.filterMap (ls[·]?), x.apart l = true := by
        intro x hx
        obtain ⟨j, hj1, hj2⟩ := List.mem_filterMap.1 hx
        have hjlt : j < i := hs4 j hj1 i (by simp)
        rcases hpair i j x l hin hjlt hj2 hl1 with hb | hb
        · exfalso
          have hlisted := closure_ok hd hback i o ho hpre j hb
          have hjun := (mem_rem.1 (show j ∈ remOf ops.size listed by rw [hsplit]; simp [hj1])).2
          have hlt2 : j < listed.size := by rw [hsz]; omega
          simp [Array.getD_eq_getD_getElem?, hlt2] at hlisted hjun
          rw [hlisted] at hjun; cases hjun
        · exact hb
      obtain ⟨v, H, k, hst, hv'⟩ := vS_front hQ hap hv
      refine stepS_ok hall ho hl2 h1 h3 hst _ fun x g' w' q1 q2 q3 => ?_
      have hput := env_put (H0 := H) (k0 := k) h1 (fun t => ARep.keeps q3.keeps _ _ (h3.env t)) (dst := l.dst) (by rw [(lowOper_parts hl2).2.1]; exact (lowOper_parts hl2).2.2.1) q1
      have hdst := (lowOper_parts hl2).2.1
      refine ih _ _ g' w' (St.put ⟨st.env, H, k⟩ l.dst v) _ (by simp [hsz]) ?_ ?_ (by rw [put_size]; exact h1) (by rw [put_defers]; exact h2) ⟨?_, ?_⟩ ?_ ?_
      · rw [hrem]
        rw [hsplit] at hle
        simp at hle ⊢
        omega
      · intro j oj hoj hlj e he hb
        by_cases hji : j = i
        · subst hji
          rw [ho] at hoj; cases hoj
          exact getD_set_true (hpre e he hb)
        · rw [getD_set_ne false (Ne.symm hji)] at hlj
          exact getD_set_true (hd j oj hoj hlj e he hb)
      · rw [St.put_H, St.put_k, ← hdst]; exact hput
      · rw [St.put_H, St.put_k]; exact q2
      · rw [St.put_H, St.put_k]; exact h4.trans q3
      · rw [hrem, List.filterMap_append]; exact hv'

theorem filterMap_range {α : Type} (l : List α) : ∀ (n m : Nat), l.length ≤ n + m → (List.range' m n).filterMap (l[·]?) = l.drop m
  | 0, m, h => by simp; omega
  | n + 1, m, h => by
    rw [List.range'_succ, List.filterMap_cons]
    cases hm : l[m]? with
    | none =>
      simp only []
      rw [filterMap_range l n (m + 1) (by omega)]
      have : l.length ≤ m := by simpa using hm
      rw [List.drop_eq_nil_of_le (by omega), List.drop_eq_nil_of_le this]
    | some x =>
      simp only []
      rw [filterMap_range l n (m + 1) (by omega)]
      obtain ⟨hlt, rfl⟩ := List.getElem?_eq_some_iff.1 hm
      exact (List.drop_eq_getElem_cons hlt).symm

theorem mapM_len {α β : Type} {f : α → Option β} : ∀ {l : List α} {ys : List β}, l.mapM f = some ys → ys.length = l.length
  | [], ys, h => by simp at h; subst h; rfl
  | a :: l, ys, h => by
    simp only [List.mapM_cons, Option.bind_eq_bind, Option.bind_eq_some_iff, Option.pure_def, Option.some.injEq] at h
    obtain ⟨y, h1, zs, h2, rfl⟩ := h
    simp [mapM_len h2]

theorem St.Same.symm {s s' : St} (h : St.Same s s') : St.Same s' s := ⟨fun t => (h.env t).symm, h.H.symm, h.k.symm⟩
theorem St.Same.trans {s s' s'' : St} (h : St.Same s s') (h' : St.Same s' s'') : St.Same s s'' := ⟨fun t => (h.env t).trans (h'.env t), h.H.trans h'.H, h.k.trans h'.k⟩
theorem Sim.same {g : G} {w : World} {s s' : St} {tm : Array Value} (h : St.Same s s') (hs : Sim g w s tm) : Sim g w s' tm := by
  obtain ⟨h1, h2⟩ := hs
  refine ⟨fun t => ?_, ?_⟩
  · rw [← h.env t, ← h.H, ← h.k]; exact h1 t
  · rw [← h.H, ← h.k]; exact h2

/-- A region whose order is open. -/
theorem aw_draw {nt : Nat} {ls : List LOp} {Q : RExit → St → Prop} {st : St} (h : vS P ls st (Q .normal)) : AWr P nt (.region true ls) Q st := by
  intro c hc g w a h1 h2 h3
  obtain ⟨id, ops, rfl, hl, hok⟩ := lower_region hc
  have hok := hok rfl
  have hm := (okDraw_parts hok).1
  refine wp_region_draw fun t => ?_
  simp only [Region.schedule, hm, Bool.true_or, if_true, Region.linearise]
  have hev : Evo g w st.H st.k g { w with drawn := w.drawn + 1 } st.H st.k :=
    ⟨Nat.le_refl _, rfl, rfl, rfl, Nat.le_refl _, fun _ _ h => h, fun _ _ h => .inl h, fun _ _ _ => rfl, fun _ _ _ => rfl, fun _ _ h => h, fun n o o' _ h h' => by rw [h] at h'; cases h'; exact Compat.refl _ _, fun n b h h' => .inl ⟨n, h, h'⟩⟩
  have hsim : SimH g { w with drawn := w.drawn + 1 } st.H st.k := by
    refine ⟨fun n o h => ?_, h3.h.inj, h3.h.fz⟩
    obtain ⟨q1, q2, q3⟩ := h3.h.obj n o h
    refine ⟨q1, ?_, q3⟩
    cases o <;> simpa only [ORep] using q2
  have hrem : remOf ops.size (Array.replicate ops.size false) = List.range ops.size := by
    apply List.filter_eq_self.2
    intro i hi
    simp only [List.mem_range] at hi
    simp [hi]
  have hlen : ls.length = ops.size := by
    have := mapM_len hl
    simpa using this
  refine draw_go (P := P) hl hok (Q := fun s' => ∃ s, St.Same s s' ∧ Q .normal s) (fun s s' e ⟨s0, e0, h0⟩ => ⟨s0, e0.trans e, h0⟩) g w st.H st.k (fun g' w' st' a' ⟨s, e, q1⟩ q2 q3 q4 q5 => ⟨.normal, s, g', trivial, q1, q2, q3, q4.same e.symm, by rw [e.H, e.k]; exact q5⟩) ops.size t _ g _ st a (by simp) (by rw [hrem]; simp) ?_ h1 h2 ⟨h3.env, hsim⟩ hev ?_
  · intro i o ho hli
    simp only [Array.getD_eq_getD_getElem?] at hli
    rcases Nat.lt_or_ge i ops.size with h | h
    · simp [h] at hli
    · simp [Nat.not_lt.2 h] at hli
  · rw [hrem, List.range_eq_range', filterMap_range ls ops.size 0 (by omega)]
    exact vS_mono (fun s hs => ⟨s, ⟨fun _ => rfl, rfl, rfl⟩, hs⟩) (by simpa using h)

/-! ### The walk of such a region -/
def vDop (P : Program) (op : ROp) (st : St) (K : AV → Heap → Nat → Prop) : Prop :=
  match op with
  | .call f args => ∃ v, ACalls P f (args.map st.ev) st.H st.k (fun v' H' k' => v' = v ∧ H' = st.H ∧ k' = st.k) ∧ K v st.H st.k
  | .callv x args => match st.ev x with
    | .fn (.func f) first cap => enters P f = true ∧ ∃ v, ACalls P f (first ++ args.map st.ev ++ cap) st.H st.k (fun v' H' k' => v' = v ∧ H' = st.H ∧ k' = st.k) ∧ K v st.H st.k
    | _ => False
  | op => match aop op st.ev st.H st.k with
    | some (v, H, k) => K v H k
    | none => False

def vD (P : Program) : List LOp → St → (St → Prop) → Prop
  | [], st, Q => Q st
  | o :: r, st, Q => match o.g with
    | none => vDop P o.op st fun v H k => vD P r (St.put ⟨st.env, H, k⟩ o.dst v) Q
    | some (d, b) => match st.env.get d with
      | .p (.c (.bool x)) => (x = b → vDop P o.op st fun v H k => vD P r (St.put ⟨st.env, H, k⟩ o.dst v) Q) ∧ (x ≠ b → vD P r (st.put o.dst (.tup [])) Q)
      | .tup _ => vD P r (st.put o.dst (.tup [])) Q
      | _ => False

theorem vDop_ok {op : ROp} {st : St} {K : AV → Heap → Nat → Prop} (h : vDop P op st K) : ∃ v H k, vOp P op st (fun v' H' k' => v' = v ∧ H' = H ∧ k' = k) ∧ (op.moves = false → H = st.H ∧ k = st.k) ∧ K v H k := by
  cases op
  case call f args =>
    obtain ⟨v, h1, h2⟩ := h
    exact ⟨v, st.H, st.k, h1, fun _ => ⟨rfl, rfl⟩, h2⟩
  case callv x args =>
    simp only [vDop] at h
    split at h
    · rename_i f first cap e
      obtain ⟨h0, v, h1, h2⟩ := h
      exact ⟨v, st.H, st.k, by simp only [vOp, e]; exact ⟨h0, h1⟩, fun _ => ⟨rfl, rfl⟩, h2⟩
    · exact h.elim
  case snil neg x => simp [vDop, aop] at h
  all_goals
    simp only [vDop] at h
    split at h
    · rename_i v H k e
      exact ⟨v, H, k, by simp only [vOp, e]; exact ⟨trivial, trivial, trivial⟩, fun hm => aop_still hm e, h⟩
    · exact h.elim

theorem vD_vS {Q : St → Prop} : ∀ {l : List LOp} {st : St}, vD P l st Q → vS P l st Q
  | [], _, h => h
  | o :: r, st, h => by
    simp only [vD] at h
    cases hg : o.g with
    | none =>
      rw [hg] at h
      obtain ⟨v, H, k, h1, h2, h3⟩ := vDop_ok h
      exact ⟨v, H, k, ⟨h2, by rw [hg]; exact h1⟩, vD_vS h3⟩
    | some db =>
      obtain ⟨d, b⟩ := db
      rw [hg] at h
      simp only at h
      split at h
      · rename_i x hx
        by_cases e : x = b
        · obtain ⟨v, H, k, h1, h2, h3⟩ := vDop_ok (h.1 e)
          exact ⟨v, H, k, ⟨h2, by rw [hg]; simp only [hx]; exact ⟨fun _ => h1, fun n => absurd e n⟩⟩, vD_vS h3⟩
        · exact ⟨.tup [], st.H, st.k, ⟨fun _ => ⟨rfl, rfl⟩, by rw [hg]; simp only [hx]; exact ⟨fun n => absurd n e, fun _ => ⟨trivial, trivial, trivial⟩⟩⟩, vD_vS (h.2 e)⟩
      · rename_i l hx
        exact ⟨.tup [], st.H, st.k, ⟨fun _ => ⟨rfl, rfl⟩, by rw [hg]; simp only [hx]; exact ⟨trivial, trivial, trivial⟩⟩, vD_vS h⟩
      · exact h.elim

theorem aw_d {nt : Nat} {ls : List LOp} {Q : RExit → St → Prop} {st : St} (h : vD P ls st (Q .normal)) : AWr P nt (.region true ls) Q st := aw_draw (vD_vS h)
theorem aw_sd {nt : Nat} {ls : List LOp} {y : RCode} {Q : RExit → St → Prop} {st : St} (h : vD P ls st (fun s => AWr P nt y Q s)) : AWr P nt (.seq (.region true ls) y) Q st := aw_seq (aw_d h)
theorem vD_call {f : FuncId} {args : List RX} {st : St} {K : AV → Heap → Nat → Prop} {xs : List AV} {r : AV} (hc : APure P f xs r) (hx : args.map st.ev = xs) (hxs : belowL 0 xs) (hr : belowA 0 r) (hK : K r st.H st.k) : vDop P (.call f args) st K :=
  ⟨r, call_pure hc hx hxs hr ⟨rfl, rfl, rfl⟩, hK⟩
theorem vD_lent {f : FuncId} {args : List RX} {st : St} {K : AV → Heap → Nat → Prop} {xs : List AV} {r : AV} (hc : APure P f xs r) (n : Nat) (hx : frzNL n st.H (args.map st.ev) = xs) (hxs : belowL 0 xs) (hr : scalarA r = true) (hK : K r st.H st.k) : vDop P (.call f args) st K :=
  ⟨r, call_lent hc n hx hxs hr ⟨rfl, rfl, rfl⟩, hK⟩
end Go.Abs
