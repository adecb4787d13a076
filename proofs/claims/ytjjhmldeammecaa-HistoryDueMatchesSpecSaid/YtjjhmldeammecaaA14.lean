/-
  Abs, part 14: regions, calls of functions, what a function comes to.
-/
import Derived.Test.YtjjhmldeammecaaA13
namespace Go.Abs
open Go

variable {P : Program}

def enters (P : Program) (f : FuncId) : Bool := match P.funcs[f]? with | some fn => fn.body.isSome && fn.name != "runtime.NumGoroutine" | none => false

def St.put (st : St) (dst : Option Nat) (v : AV) : St := match dst with | some d => { st with env := (d, v) :: st.env } | none => st

def vOp (P : Program) (op : ROp) (st : St) (K : AV → Heap → Nat → Prop) : Prop :=
  match op with
  | .call f args => ACalls P f (args.map st.ev) st.H st.k K
  | .callv x args => match st.ev x with
    | .fn (.func f) first cap => enters P f = true ∧ ACalls P f (first ++ args.map st.ev ++ cap) st.H st.k K
    | _ => False
  | .snil neg x => match rowsOf st.H (st.ev x) with
    | some rows => ∀ b, (rows ≠ [] → b = false) → K (.p (.c (.bool (b != neg)))) st.H st.k
    | none => False
  | op => match aop op st.ev st.H st.k with
    | some (v, H, k) => K v H k
    | none => False

def vOps (P : Program) : List LOp → St → (St → Prop) → Prop
  | [], st, Q => Q st
  | o :: r, st, Q => match o.g with
    | none => vOp P o.op st fun v H k => vOps P r (St.put ⟨st.env, H, k⟩ o.dst v) Q
    | some (d, b) => match st.env.get d with
      | .p (.c (.bool x)) => (x = b → vOp P o.op st fun v H k => vOps P r (St.put ⟨st.env, H, k⟩ o.dst v) Q) ∧ (x ≠ b → vOps P r (st.put o.dst (.tup [])) Q)
      | .tup _ => vOps P r (st.put o.dst (.tup [])) Q
      | _ => False

theorem ACalls.mono {f : FuncId} {avs : List AV} {H : Heap} {k : Nat} {K K' : AV → Heap → Nat → Prop} (h : ACalls P f avs H k K) (hk : ∀ r H k, K r H k → K' r H k) : ACalls P f avs H k K' :=
  fun g w args h1 h2 => (h g w args h1 h2).mono fun _ _ ⟨v, r, g', H', k', e, hK, rest⟩ => ⟨v, r, g', H', k', e, hk _ _ _ hK, rest⟩

theorem vOp_mono {op : ROp} {st : St} {K K' : AV → Heap → Nat → Prop} (hk : ∀ r H k, K r H k → K' r H k) (h : vOp P op st K) : vOp P op st K' := by
  cases op
  case call f args => exact ACalls.mono h hk
  case callv x args =>
    simp only [vOp] at h ⊢
    split at h
    · exact ⟨h.1, h.2.mono hk⟩
    · exact h.elim
  case snil neg x =>
    simp only [vOp] at h ⊢
    split at h
    · exact fun b hb => hk _ _ _ (h b hb)
    · exact h.elim
  all_goals
    simp only [vOp] at h ⊢
    split at h
    · exact hk _ _ _ h
    · exact h

theorem vOps_mono {Q Q' : St → Prop} (hq : ∀ s, Q s → Q' s) : ∀ {l : List LOp} {st : St}, vOps P l st Q → vOps P l st Q'
  | [], _, h => hq _ h
  | o :: r, st, h => by
    simp only [vOps] at h ⊢
    split at h
    · exact vOp_mono (fun _ _ _ h' => vOps_mono hq h') h
    · split at h
      · exact ⟨fun e => vOp_mono (fun _ _ _ h' => vOps_mono hq h') (h.1 e), fun e => vOps_mono hq (h.2 e)⟩
      · exact vOps_mono hq h
      · exact h

theorem put_size (a : Act) (dst : Option Nat) (v : Value) : (a.put dst v).tmps.size = a.tmps.size := by
  cases dst <;> simp [Act.put]
theorem put_defers (a : Act) (dst : Option Nat) (v : Value) : (a.put dst v).defers = a.defers := by
  cases dst <;> rfl

theorem env_put {g : G} {H : Heap} {k : Nat} {env : Env} {a : Act} {nt : Nat} (hsz : a.tmps.size = nt) (he : ∀ t, ARep g H k (env.get t) (a.tmps.getD t undef)) {dst : Option Nat} (hd : dst.all (· < nt) = true) {v : AV} {x : Value} (hv : ARep g H k v x) (H0 : Heap) (k0 : Nat) :
    ∀ t, ARep g H k ((St.put ⟨env, H0, k0⟩ dst v).env.get t) ((a.put dst x).tmps.getD t undef) := by
  intro t
  cases dst with
  | none => exact he t
  | some d =>
    simp only [Option.all_some, decide_eq_true_eq] at hd
    simp only [St.put, Env.get, Act.put]
    by_cases e : d = t
    · subst e
      simp [hsz, hd, hv]
    · simp only [if_neg e]
      have := he t
      rw [Array.getD_eq_getD_getElem?] at this ⊢
      rw [Array.getElem?_setIfInBounds, if_neg e]
      exact this

theorem lowOper_parts {nt : Nat} {ops : Array Oper} {o : Oper} {l : LOp} (h : lowOper P nt ops o = some l) : lowOp P o.op = some l.op ∧ l.dst = o.dst ∧ o.dst.all (· < nt) = true ∧
    (o.guard = none ∧ l.g = none ∨ ∃ j b d, o.guard = some (j, b) ∧ (ops[j]?).bind (·.dst) = some d ∧ l.g = some (d, b)) := by
  simp only [lowOper, Option.bind_eq_bind, Option.bind_eq_some_iff] at h
  obtain ⟨op, h1, h⟩ := h
  split at h
  · cases h
  · rename_i hd
    have hd' : o.dst.all (· < nt) = true := by simpa using hd
    simp only [Option.pure_def, Option.bind_some] at h
    split at h
    · rename_i hg
      cases h
      exact ⟨h1, rfl, hd', .inl ⟨hg, rfl⟩⟩
    · rename_i j b hg
      split at h
      · rename_i d hd2
        cases h
        exact ⟨h1, rfl, hd', .inr ⟨j, b, d, hg, hd2, rfl⟩⟩
      · cases h

theorem call_runs {oo : Oper} {f : FuncId} {args : Array Operand} {argTypes : Array TypeId} {a : Act} {w : World} (ho : oo.op = .call { callee := .value (.func f), args := args, argTypes := argTypes }) (hf : enters P f = true) :
    (execOp a.eval oo).run P w = .ok (.enter f (args.map a.eval)) w := by
  unfold enters at hf
  split at hf
  · rename_i fn hfn
    simp only [Bool.and_eq_true, bne_iff_ne, ne_eq] at hf
    have hb : ¬ fn.body = none := by intro h; rw [h] at hf; simp at hf
    simp [execOp, ho, resolve, Deferred.ofValue, Act.eval, invoke, callFunc, hfn, hf.2, hb]
  · cases hf

theorem callv_runs {oo : Oper} {x : Operand} {args : Array Operand} {argTypes : Array TypeId} {a : Act} {w : World} {f : FuncId} {first cap : Array Value} (ho : oo.op = .call { callee := .value x, args := args, argTypes := argTypes }) (hx : a.eval x = .func (.func f) first cap) (hf : enters P f = true) :
    (execOp a.eval oo).run P w = .ok (.enter f (first ++ args.map a.eval ++ cap)) w := by
  unfold enters at hf
  split at hf
  · rename_i fn hfn
    simp only [Bool.and_eq_true, bne_iff_ne, ne_eq] at hf
    have hb : ¬ fn.body = none := by intro h; rw [h] at hf; simp at hf
    simp [execOp, ho, resolve, hx, Deferred.ofValue, invoke, callFunc, hfn, hf.2, hb]
  · cases hf

theorem low_call {o : Op} {f : FuncId} {args : List RX} (h : lowOp P o = some (.call f args)) : ∃ as ts, o = .call { callee := .value (.func f), args := as, argTypes := ts } ∧ as.toList.mapM lowX = some args ∧ enters P f = true := by
  cases o
  case call c =>
    obtain ⟨callee, as, ts⟩ := c
    cases callee with
    | builtin b =>
      exfalso
      cases b <;> simp only [lowOp, lowBuiltin] at h <;> (repeat' split at h) <;> simp [Option.bind_eq_some_iff] at h
    | invoke r m => simp [lowOp] at h
    | value x =>
      cases x with
      | func f' =>
        simp only [lowOp] at h
        split at h
        · rename_i fn hfn
          split at h
          · rename_i hc
            simp only [Option.bind_eq_bind, Option.bind_eq_some_iff, Option.pure_def, Option.some.injEq, ROp.call.injEq] at h
            obtain ⟨l, hl', rfl, rfl⟩ := h
            exact ⟨as, ts, rfl, hl', by simp only [enters, hfn]; exact hc⟩
          · cases h
        · cases h
      | _ => simp [lowOp, Option.bind_eq_some_iff] at h
  all_goals
    exfalso
    (first | simp only [lowOp] at h | unfold lowOp at h)
    (repeat' split at h) <;> simp_all [Option.bind_eq_some_iff]
    all_goals
      obtain ⟨_, _, _, _, h⟩ := h
      split at h <;> simp at h
theorem low_callv {o : Op} {x : RX} {args : List RX} (h : lowOp P o = some (.callv x args)) : ∃ y as ts, o = .call { callee := .value y, args := as, argTypes := ts } ∧ lowX y = some x ∧ as.toList.mapM lowX = some args := by
  cases o
  case call c =>
    obtain ⟨callee, as, ts⟩ := c
    cases callee with
    | builtin b =>
      exfalso
      cases b <;> simp only [lowOp, lowBuiltin] at h <;> (repeat' split at h) <;> simp [Option.bind_eq_some_iff] at h
    | invoke r m => simp [lowOp] at h
    | value y =>
      cases y with
      | func f' =>
        exfalso
        simp only [lowOp] at h
        (repeat' split at h) <;> simp [Option.bind_eq_some_iff] at h
      | _ =>
        simp only [lowOp, Option.bind_eq_bind, Option.bind_eq_some_iff, Option.pure_def, Option.some.injEq, ROp.callv.injEq] at h
        obtain ⟨z, hz, l, hl', rfl, rfl⟩ := h
        exact ⟨_, as, ts, rfl, hz, hl'⟩
  all_goals
    exfalso
    (first | simp only [lowOp] at h | unfold lowOp at h)
    (repeat' split at h) <;> simp_all [Option.bind_eq_some_iff]
    all_goals
      obtain ⟨_, _, _, _, h⟩ := h
      split at h <;> simp at h

/-- One operation. -/
theorem low_snil {o : Op} {neg : Bool} {x : RX} (h : lowOp P o = some (.snil neg x)) : ∃ bo t y z u e, o = .binOp bo t y z u ∧ P.underlying t = some (.slice e) ∧ lowX y = some x ∧ z = .const (.slice none 0 0) ∧ ((bo = .eql ∧ neg = false) ∨ (bo = .neq ∧ neg = true)) := by
  cases o
  case binOp bo t y z u =>
    simp only [lowOp, Option.bind_eq_bind, Option.bind_eq_some_iff] at h
    obtain ⟨y', h1, z', h2, h⟩ := h
    split at h
    · split at h <;> simp only [Option.some.injEq, reduceCtorEq] at h
    · split at h <;> simp only [Option.some.injEq, reduceCtorEq] at h
    · split at h <;> simp only [Option.some.injEq, reduceCtorEq] at h
    · rename_i e he
      have hz : z' = .k (.c (.slice none 0 0)) → z = .const (.slice none 0 0) := by
        rintro rfl
        cases z <;> simp only [lowX, Option.some.injEq, reduceCtorEq, Option.map_eq_some_iff] at h2
        rename_i v
        obtain ⟨a, h2, h3⟩ := h2
        cases h3
        unfold PV.ofValue at h2
        split at h2
        · simp only [Option.map_eq_some_iff, reduceCtorEq, and_false, exists_false] at h2
        · simp only [PV.ofFlat] at h2
          split at h2
          · simp only [Option.some.injEq, PV.c.injEq] at h2; rw [h2]
          · cases h2
      split at h <;> simp only [Option.some.injEq, ROp.snil.injEq, reduceCtorEq] at h
      · obtain ⟨rfl, rfl⟩ := h
        exact ⟨_, _, _, _, _, _, rfl, he, h1, hz rfl, .inl ⟨rfl, rfl⟩⟩
      · obtain ⟨rfl, rfl⟩ := h
        exact ⟨_, _, _, _, _, _, rfl, he, h1, hz rfl, .inr ⟨rfl, rfl⟩⟩
    · split at h
      · split at h <;> simp only [Option.some.injEq, reduceCtorEq] at h
      · cases h
    · cases h
  case call c =>
    exfalso
    obtain ⟨callee, as, ts⟩ := c
    cases callee with
    | builtin b => cases b <;> simp only [lowOp, lowBuiltin] at h <;> (repeat' split at h) <;> simp [Option.bind_eq_some_iff] at h
    | invoke r m => simp [lowOp] at h
    | value y =>
      cases y with
      | func f' => simp only [lowOp] at h; (repeat' split at h) <;> simp [Option.bind_eq_some_iff] at h
      | _ => simp [lowOp, Option.bind_eq_some_iff] at h
  all_goals
    exfalso
    (first | simp only [lowOp] at h | unfold lowOp at h)
    (repeat' split at h) <;> simp_all [Option.bind_eq_some_iff]
theorem equalIn_nil {t e : TypeId} (ht : P.underlying t = some (.slice e)) (d : Nat) (ba : Option Addr) (l c : Nat) (w : World) : (Op.equalIn (d + 1) t (.slice ba l c) (.slice none 0 0)).run P w = .ok ba.isNone w := by
  cases ba <;> simp only [Op.equalIn, Sem.run_bind, run_underlying ht, Result.andThen_ok] <;> rfl
theorem bin_nil {t e : TypeId} (ht : P.underlying t = some (.slice e)) (ba : Option Addr) (l c : Nat) (w : World) :
    (binOp .eql t (.slice ba l c) (.slice none 0 0)).run P w = .ok (.bool ba.isNone) w ∧ (binOp .neq t (.slice ba l c) (.slice none 0 0)).run P w = .ok (.bool !ba.isNone) w := by
  have h : (Op.equal t (.slice ba l c) (.slice none 0 0)).run P w = .ok ba.isNone w := equalIn_nil ht 9999 ba l c w
  constructor
  · show (do pure (Value.bool (← Op.equal t (.slice ba l c) (.slice none 0 0))) : Sem Value).run P w = _
    rw [Sem.run_bind, h]; rfl
  · show (do pure (Value.bool (!(← Op.equal t (.slice ba l c) (.slice none 0 0)))) : Sem Value).run P w = _
    rw [Sem.run_bind, h]; rfl
theorem guard_slice (op : BinOp) (t : TypeId) (x y : Operand) (ba : Option Addr) (l c : Nat) (w : World) : (eqGuard op t x y (.slice ba l c) (.slice none 0 0)).run P w = .ok () w := by
  cases op <;> rfl
theorem rows_val {g : G} {H : Heap} {k : Nat} {x : AV} {v : Value} {rows : List (List PV)} (h : ARep g H k x v) (hr : rowsOf H x = some rows) : ∃ ba len cap, v = .slice ba len cap ∧ (rows ≠ [] → ba ≠ none) := by
  unfold rowsOf at hr
  split at hr
  · cases hr
    simp only [ARep, PRep] at h
    rcases h.2 with ⟨rfl, ba, e⟩ | ⟨b, off, cap, w, cs, t, fr, vals, e, _⟩
    · exact ⟨ba, 0, 0, e, fun h => absurd rfl h⟩
    · exact ⟨_, _, _, e, fun _ => by simp⟩
  · cases hr
    have := rep_c h
    exact ⟨none, 0, 0, this, fun h => absurd rfl h⟩
  · rename_i n off len
    split at hr
    · rename_i rs hH
      split at hr
      · rename_i hl
        cases hr
        simp only [ARep] at h
        obtain ⟨a, cap, e, h1, h2⟩ := (h.2.2 rs hH).2 hl
        refine ⟨a, len, cap, e, fun hne => ?_⟩
        rcases h2 with h2 | ⟨b, _, _, _, h2⟩
        · exfalso
          apply hne
          exact List.drop_eq_nil_of_le (by omega)
        · rw [h2]; simp
      · cases hr
    · cases hr
  · cases hr
theorem vOp_ok {o : Oper} {op : ROp} {st : St} {K : AV → Heap → Nat → Prop} {g : G} {w : World} {a : Act} (hl : lowOp P o.op = some op) (hs : Sim g w st a.tmps) (hv : vOp P op st K)
    (next : Act → World → Prop) (Q : Exit → Act → World → Prop) (hn : ∀ v x H' k' g' w', K v H' k' → ARep g' H' k' v x → SimH g' w' H' k' → Evo g w st.H st.k g' w' H' k' → next (a.put o.dst x) w') : o.wp P a w next Q := by
  have plain : (∃ v H' k', aop op st.ev st.H st.k = some (v, H', k') ∧ K v H' k') → o.wp P a w next Q := by
    rintro ⟨v, H', k', h1, h2⟩
    obtain ⟨g', w', x, hr, hx, hs', he⟩ := sound o.op o rfl g w st.H st.k st.env a op v H' k' hs.h hs.env hl h1
    unfold Oper.wp
    rcases hr with hr | ⟨hr, rfl⟩
    · rw [hr]; exact hn _ _ _ _ _ _ h2 hx hs' he
    · rw [hr]; exact hn _ _ _ _ _ _ h2 hx hs' he
  have calls : ∀ (f : FuncId) (avs : List AV) (args : Array Value), (execOp a.eval o).run P w = .ok (.enter f args) w → ARepL g st.H st.k avs args.toList → ACalls P f avs st.H st.k K → o.wp P a w next Q := by
    intro f avs args hr ha hc
    unfold Oper.wp
    rw [hr]
    refine (hc g w args hs.h ha).mono ?_
    rintro e w' ⟨v, r, g', H', k', rfl, hK, h1, h2, h3⟩
    exact hn _ _ _ _ _ _ hK h1 h2 h3
  cases op
  case call f args =>
    obtain ⟨as, ts, ho, hx, hen⟩ := low_call hl
    refine calls f _ _ (call_runs ho hen) ?_ hv
    have := lowXs_rep (k := st.k) hs.env hx
    simpa using this
  case callv x args =>
    obtain ⟨y, as, ts, ho, hy, hx⟩ := low_callv hl
    simp only [vOp] at hv
    split at hv
    · rename_i f first cap hev
      have hr := lowX_rep (k := st.k) hs.env hy
      rw [hev] at hr
      simp only [ARep] at hr
      obtain ⟨p, q, e, h1, h2⟩ := hr
      refine calls f _ _ (callv_runs ho e hv.1) ?_ hv.2
      have := lowXs_rep (k := st.k) hs.env hx
      simp only [Array.toList_append, Array.toList_map]
      exact (h1.append this).append h2
    · exact hv.elim
  case snil neg x =>
    obtain ⟨bo, t, y, z, u, e, ho, ht, hy, rfl, hb⟩ := low_snil hl
    simp only [vOp] at hv
    split at hv
    · rename_i rows hrows
      obtain ⟨ba, len, cap, hval, hne⟩ := rows_val (lowX_rep (k := st.k) hs.env hy) hrows
      have hrun : (execOp a.eval o).run P w = .ok (.value (.bool (ba.isNone != neg))) w := by
        have hz : a.eval (.const (.slice none 0 0)) = .slice none 0 0 := rfl
        obtain ⟨q1, q2⟩ := bin_nil (P := P) ht ba len cap w
        simp only [execOp, ho, Sem.run_bind, Sem.run_pure, hval, hz, guard_slice, Result.andThen_ok]
        rcases hb with ⟨rfl, rfl⟩ | ⟨rfl, rfl⟩
        · rw [q1]; simp
        · rw [q2]; simp
      unfold Oper.wp
      rw [hrun]
      refine hn _ _ _ _ _ _ (hv ba.isNone fun h => ?_) (rep_self _) hs.h Evo.refl
      have := hne h
      cases ba
      · exact absurd rfl this
      · rfl
    · exact hv.elim
  all_goals
    refine plain ?_
    simp only [vOp] at hv
    split at hv
    · rename_i v H' k' h1
      exact ⟨v, H', k', h1, hv⟩
    · exact hv.elim

theorem yielded_ok {g : G} {st : St} {ops : Array Oper} {a : Act} {w : World} {nt : Nat} (hs : Sim g w st a.tmps) (hsz : a.tmps.size = nt) {j d : Nat} (hj : (ops[j]?).bind (·.dst) = some d) (hd : d < nt) {x : Bool} (hx : st.env.get d = .p (.c (.bool x))) :
    yielded ops a.tmps j = some x := by
  have := hs.env d
  rw [hx] at this
  have e := rep_c this
  have hlt : d < a.tmps.size := by omega
  simp only [Array.getD_eq_getD_getElem?, Array.getElem?_eq_getElem hlt, Option.getD_some] at e
  simp [yielded, hj, Array.getElem?_eq_getElem hlt, e]

theorem yielded_tup {g : G} {st : St} {ops : Array Oper} {a : Act} {w : World} {nt : Nat} (hs : Sim g w st a.tmps) (hsz : a.tmps.size = nt) {j d : Nat} (hj : (ops[j]?).bind (·.dst) = some d) (hd : d < nt) {l : List AV} (hx : st.env.get d = .tup l) :
    yielded ops a.tmps j = none := by
  have := hs.env d
  rw [hx] at this
  simp only [ARep] at this
  obtain ⟨vs, e, _⟩ := this
  have hlt : d < a.tmps.size := by omega
  simp only [Array.getD_eq_getD_getElem?, Array.getElem?_eq_getElem hlt, Option.getD_some] at e
  simp [yielded, hj, Array.getElem?_eq_getElem hlt, e]

theorem wpOps_ok {nt : Nat} {ops : Array Oper} (hall : ∀ o ∈ ops.toList, o.dst.all (· < nt) = true) {Q : St → Prop} {R : Exit → Act → World → Prop} (g0 : G) (w0 : World) (H0 : Heap) (k0 : Nat)
    (hR : ∀ g w st a, Q st → a.tmps.size = nt → a.defers = [] → Sim g w st a.tmps → Evo g0 w0 H0 k0 g w st.H st.k → R .normal a w) :
    ∀ (n i : Nat) (ls : List LOp) (g : G) (w : World) (st : St) (a : Act), i + n = ops.size → (ops.toList.drop i).mapM (lowOper P nt ops) = some ls → a.tmps.size = nt → a.defers = [] → Sim g w st a.tmps → Evo g0 w0 H0 k0 g w st.H st.k →
      vOps P ls st Q → wpOps P ops R (List.range' i n) a w
  | 0, i, ls, g, w, st, a, hi, hl, h1, h2, h3, h4, hv => by
    have hd : ops.toList.drop i = [] := List.drop_eq_nil_of_le (by simp; omega)
    rw [hd] at hl
    simp at hl
    subst hl
    exact hR g w st a hv h1 h2 h3 h4
  | n + 1, i, ls, g, w, st, a, hi, hl, h1, h2, h3, h4, hv => by
    have hlt : i < ops.size := by omega
    have hlt' : i < ops.toList.length := by simpa using hlt
    rw [List.drop_eq_getElem_cons hlt'] at hl
    simp only [List.mapM_cons, Option.bind_eq_bind, Option.bind_eq_some_iff, Option.pure_def, Option.some.injEq] at hl
    obtain ⟨l, hl1, ls', hl2, rfl⟩ := hl
    have hget : ops[i]? = some ops.toList[i] := by simp [hlt]
    obtain ⟨p1, p2, p3, p4⟩ := lowOper_parts hl1
    have cont : ∀ v x H' k' g' w', vOps P ls' (St.put ⟨st.env, H', k'⟩ l.dst v) Q → ARep g' H' k' v x → SimH g' w' H' k' → Evo g w st.H st.k g' w' H' k' → wpOps P ops R (List.range' (i + 1) n) (a.put ops.toList[i].dst x) w' := by
      intro v x H' k' g' w' hv' hx hs' he
      have hput := env_put (H0 := H') (k0 := k') h1 (fun t => ARep.keeps he.keeps _ _ (h3.env t)) (dst := l.dst) (by rw [p2]; exact p3) hx
      rw [p2] at hput
      rw [p2] at hv'
      have hst : ∀ (d : Option Nat), (St.put ⟨st.env, H', k'⟩ d v).H = H' ∧ (St.put ⟨st.env, H', k'⟩ d v).k = k' := fun d => by cases d <;> exact ⟨rfl, rfl⟩
      refine wpOps_ok hall g0 w0 H0 k0 hR n (i + 1) ls' g' w' (St.put ⟨st.env, H', k'⟩ ops.toList[i].dst v) _ (by omega) hl2 (by rw [put_size]; exact h1) (by rw [put_defers]; exact h2) ⟨?_, ?_⟩ ?_ hv'
      · rw [(hst _).1, (hst _).2]; exact hput
      · rw [(hst _).1, (hst _).2]; exact hs'
      · rw [(hst _).1, (hst _).2]; exact h4.trans he
    have skip : vOps P ls' (st.put l.dst (.tup [])) Q → wpOps P ops R (List.range' (i + 1) n) (a.put ops.toList[i].dst undef) w := fun hv' =>
      cont (.tup []) undef st.H st.k g w hv' (by simp [ARep, ARepL, undef]) h3.h Evo.refl
    rw [List.range'_succ]
    simp only [wpOps, hget]
    simp only [vOps] at hv
    rcases p4 with ⟨q1, q2⟩ | ⟨j, b, d, q1, q2, q3⟩
    · rw [q2] at hv
      have hw : Region.wanted ops.toList[i] (yielded ops a.tmps) = true := by unfold Region.wanted; rw [q1]
      rw [hw]
      exact .inl (vOp_ok p1 h3 hv _ _ cont)
    · rw [q3] at hv
      simp only at hv
      have hdlt : d < nt := by
        cases hj : ops[j]? with
        | none => simp [hj] at q2
        | some oj =>
          simp only [hj, Option.bind_some] at q2
          have := hall oj (List.mem_of_getElem? (by simpa using hj))
          simpa [q2] using this
      split at hv
      · rename_i x hx
        have hy := yielded_ok h3 h1 q2 hdlt hx
        by_cases e : x = b
        · have hw : Region.wanted ops.toList[i] (yielded ops a.tmps) = true := by unfold Region.wanted; rw [q1]; simp [hy, e]
          rw [hw]
          exact .inl (vOp_ok p1 h3 (hv.1 e) _ _ cont)
        · have hw : Region.wanted ops.toList[i] (yielded ops a.tmps) = false := by unfold Region.wanted; rw [q1]; simp [hy, e]
          rw [hw]
          exact skip (hv.2 e)
      · rename_i l' hx
        have hy := yielded_tup h3 h1 q2 hdlt hx
        have hw : Region.wanted ops.toList[i] (yielded ops a.tmps) = false := by unfold Region.wanted; rw [q1]; simp [hy]
        rw [hw]
        exact skip hv
      · exact hv.elim

theorem lowOpers_dst {nt : Nat} {ops : Array Oper} : ∀ {l : List Oper} {ls : List LOp}, l.mapM (lowOper P nt ops) = some ls → ∀ o ∈ l, o.dst.all (· < nt) = true
  | [], _, _, o, ho => by cases ho
  | x :: l, ls, h, o, ho => by
    simp only [List.mapM_cons, Option.bind_eq_bind, Option.bind_eq_some_iff, Option.pure_def, Option.some.injEq] at h
    obtain ⟨y, h1, ls', h2, rfl⟩ := h
    cases ho with
    | head => exact (lowOper_parts h1).2.2.1
    | tail _ ho => exact lowOpers_dst h2 o ho

/-- A region whose order is fixed. -/
theorem aw_region {nt : Nat} {ls : List LOp} {Q : RExit → St → Prop} {st : St} (h : vOps P ls st (Q .normal)) : AWr P nt (.region false ls) Q st := by
  intro c hc g w a h1 h2 h3
  obtain ⟨id, ops, rfl, hl, _⟩ := lower_region hc
  refine wp_region ?_
  rw [List.range_eq_range']
  exact wpOps_ok (P := P) (lowOpers_dst hl) g w st.H st.k (Q := Q .normal) (fun g' w' st' a' q1 q2 q3 q4 q5 => ⟨.normal, st', g', trivial, q1, q2, q3, q4, q5⟩) ops.size 0 ls g w st a (by omega) (by simpa using hl) h1 h2 h3 Evo.refl h
end Go.Abs
