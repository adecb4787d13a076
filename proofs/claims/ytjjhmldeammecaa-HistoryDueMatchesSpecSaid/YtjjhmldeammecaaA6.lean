/-
  Abs, part 6: the operations, one by one.
-/
import Derived.Test.YtjjhmldeammecaaA5
namespace Go.Abs
open Go

variable {P : Program} {g : G} {w : World} {H : Heap} {k : Nat} {env : Env} {a : Act} {op : ROp} {v : AV} {H' : Heap} {k' : Nat}

/-- What is asked of an operation's text. -/
def Sound (P : Program) (o : Op) : Prop := ∀ (oo : Oper), oo.op = o → ∀ (g : G) (w : World) (H : Heap) (k : Nat) (env : Env) (a : Act) (op : ROp) (v : AV) (H' : Heap) (k' : Nat),
  SimH g w H k → (∀ t, ARep g H k (env.get t) (a.tmps.getD t undef)) → lowOp P o = some op → aop op (St.ev ⟨env, H, k⟩) H k = some (v, H', k') → OpOK g w H k ((execOp a.eval oo).run P w) v H' k'

theorem s_mv (x : Operand) : Sound P (.move x) := by
  intro oo ho g w H k env a op v H' k' hs he hl hv
  simp only [lowOp, Option.map_eq_some_iff] at hl
  obtain ⟨y, h1, rfl⟩ := hl
  simp only [aop, Option.some.injEq, Prod.mk.injEq] at hv
  obtain ⟨rfl, rfl, rfl⟩ := hv
  exact OpOK.same hs (by simp [execOp, ho]) (lowX_rep he h1)
theorem s_assign (x : Operand) : Sound P (.assign x) := by
  intro oo ho g w H k env a op v H' k' hs he hl hv
  simp only [lowOp, Option.map_eq_some_iff] at hl
  obtain ⟨y, h1, rfl⟩ := hl
  simp only [aop, Option.some.injEq, Prod.mk.injEq] at hv
  obtain ⟨rfl, rfl, rfl⟩ := hv
  exact OpOK.same hs (by simp [execOp, ho]) (lowX_rep he h1)

theorem rep_self {g : G} {H : Heap} {k : Nat} (x : Value) : ARep g H k (.p (.c x)) x := by simp [ARep, PRep]
theorem rep_c {g : G} {H : Heap} {k : Nat} {x : Value} {v : Value} (h : ARep g H k (.p (.c x)) v) : v = x := by simpa [ARep, PRep] using h

theorem s_pick (c x y : Operand) : Sound P (.pick c x y) := by
  intro oo ho g w H k env a op v H' k' hs he hl hv
  simp only [lowOp, Option.bind_eq_bind, Option.bind_eq_some_iff, Option.pure_def, Option.some.injEq] at hl
  obtain ⟨c', h1, x', h2, y', h3, rfl⟩ := hl
  have r1 := lowX_rep he h1
  simp only [aop] at hv
  split at hv
  · rename_i t hc
    rw [hc] at r1
    have e := rep_c r1
    simp only [Option.some.injEq, Prod.mk.injEq] at hv
    obtain ⟨rfl, rfl, rfl⟩ := hv
    refine OpOK.same hs (x := if t then a.eval x else a.eval y) (by simp [execOp, ho, e, asBool]) ?_
    cases t
    · exact lowX_rep he h3
    · exact lowX_rep he h2
  · cases hv

theorem ibin_run {op : BinOp} {t : TypeId} {q : IntKind} {x y : Int} {v : Value} (hv : ibinV op q x y = some v) (w : World) :
    (binOp op t (.int q x) (.int q y)).run P w = .ok v w := by
  cases op <;> simp only [ibinV, Option.some.injEq, reduceCtorEq] at hv
  all_goals first
    | (subst hv; simp [binOp, Op.intArith, Op.intCmp, Op.intBits]; done)
    | (split at hv
       · cases hv
       · rename_i hy
         cases hv
         simp [binOp, Op.intDiv, hy])

theorem guard_int (op : BinOp) (t : TypeId) (x y : Operand) (q q' : IntKind) (m n : Int) (w : World) : (eqGuard op t x y (.int q m) (.int q' n)).run P w = .ok () w := by
  unfold eqGuard; split <;> simp
theorem guard_string (op : BinOp) (t : TypeId) (x y : Operand) (m n : ByteArray) (w : World) : (eqGuard op t x y (.string m) (.string n)).run P w = .ok () w := by
  unfold eqGuard; split <;> simp
theorem guard_bool (op : BinOp) (t : TypeId) (x y : Operand) (m n : Bool) (w : World) : (eqGuard op t x y (.bool m) (.bool n)).run P w = .ok () w := by
  unfold eqGuard; split <;> simp

theorem sbin_run {op : BinOp} {t : TypeId} {x y : ByteArray} {v : Value} (hv : sbinV op x y = some v) (w : World) :
    (binOp op t (.string x) (.string y)).run P w = .ok v w := by
  cases op <;> simp only [sbinV, Option.some.injEq, reduceCtorEq] at hv
  case add =>
    split at hv
    · rename_i hle
      cases hv
      have : ¬ (9223372036854775807 < ((x.size : Int) + (y.size : Int))) := by unfold lim at hle; omega
      simp [binOp, Op.stringOp, IntKind.max, IntKind.signed, IntKind.bits, this]
    · cases hv
  all_goals (subst hv; simp [binOp, Op.stringOp])

theorem fkT_eq {t : TypeId} {q : FK} {x y : Value} {r : Bool} (ht : fkT P t = some q) (h : flatEq q x y = some r) (d : Nat) (w : World) : (Op.equalIn (d + 1) t x y).run P w = .ok r w := by
  unfold fkT at ht
  split at ht <;> simp only [Option.some.injEq, reduceCtorEq] at ht
  · rename_i q' hq
    subst ht
    cases x <;> cases y <;> simp only [flatEq, reduceCtorEq] at h
    split at h
    · rename_i hk; cases h; subst hk; exact run_equalIn_int w d t _ q' _ _ hq
    · cases h
  · rename_i hq
    subst ht
    cases x <;> cases y <;> simp only [flatEq, Option.some.injEq, reduceCtorEq] at h
    subst h
    simp [Op.equalIn, run_underlying hq]
  · rename_i hq
    subst ht
    cases x <;> cases y <;> simp only [flatEq, Option.some.injEq, reduceCtorEq] at h
    subst h
    simp [Op.equalIn, run_underlying hq]

theorem fkT_agg {t : TypeId} {q : FK} (h : fkT P t = some q) : isAggT P t = some false := by
  unfold fkT at h
  unfold isAggT
  split at h <;> simp_all

theorem flatFields_eq {w : World} {fz : Nat → Option Obj} {xs ys : Array Value} {d : Nat} : ∀ (fs : List Field) (off : Nat) (qs : List FK) (as bs : List PV) (r : Bool), flatFields P fs off = some qs →
    PRepL fz as (xs.toList.drop off) → PRepL fz bs (ys.toList.drop off) → cellsEq qs as bs = some r → (Op.eqFields (d + 1) xs ys fs).run P w = .ok r w
  | [], off, qs, as, bs, r, hf, h1, h2, hr => by
    simp only [flatFields, Option.some.injEq] at hf
    subst hf
    cases as <;> cases bs <;> simp only [cellsEq, Option.some.injEq, reduceCtorEq] at hr
    subst hr; simp [Op.eqFields]
  | f :: fs, off, qs, as, bs, r, hf, h1, h2, hr => by
    simp only [flatFields] at hf
    split at hf
    · rename_i hc
      obtain ⟨hoff, hname, hsz⟩ := hc
      split at hf
      · rename_i q qs' hq hqs
        cases hf
        cases as with
        | nil => simp [cellsEq] at hr
        | cons a as =>
          cases bs with
          | nil => cases a <;> simp [cellsEq] at hr
          | cons b bs =>
            cases a <;> cases b <;> simp only [cellsEq, reduceCtorEq] at hr
            rename_i u v
            simp only [PRepL, PRep] at h1 h2
            obtain ⟨u', r1, e1, rfl, h1'⟩ := h1
            obtain ⟨v', r2, e2, rfl, h2'⟩ := h2
            have g1 : xs[off]? = some u' := by
              have := congrArg (fun l => l[0]?) e1
              simpa using this
            have g2 : ys[off]? = some v' := by
              have := congrArg (fun l => l[0]?) e2
              simpa using this
            have d1 : xs.toList.drop (off + 1) = r1 := by
              have := congrArg (List.drop 1) e1
              simpa [List.drop_drop, Nat.add_comm] using this
            have d2 : ys.toList.drop (off + 1) = r2 := by
              have := congrArg (List.drop 1) e2
              simpa [List.drop_drop, Nat.add_comm] using this
            split at hr
            · rename_i p s hp hs
              simp only [Option.some.injEq] at hr
              have ih := flatFields_eq (w := w) (xs := xs) (ys := ys) (d := d) fs (off + 1) qs' as bs s hqs (by rw [d1]; exact h1') (by rw [d2]; exact h2') hs
              have hagg := fkT_agg hq
              have p1 : (part f.type xs f.offset).run P w = .ok u' w := by simp [part, run_isAggT hagg, hoff, g1]
              have p2 : (part f.type ys f.offset).run P w = .ok v' w := by simp [part, run_isAggT hagg, hoff, g2]
              have p3 := fkT_eq (w := w) hq hp d
              simp only [Op.eqFields, hname, ne_eq, not_false_eq_true, if_true, Sem.run_bind, p1, p2, p3, Result.andThen_ok, Sem.run_ite]
              cases p
              · simp at hr; subst hr; simp
              · simp at hr; subst hr; simp [ih]
            · cases hr
      · cases hf
    · cases hf

theorem eqv_run {t : TypeId} {ks : List FK} {as bs : List PV} {xs ys : Array Value} {r : Bool} {fz : Nat → Option Obj} (ht : eqable P t = some ks) (h1 : PRepL fz as xs.toList) (h2 : PRepL fz bs ys.toList)
    (hr : cellsEq ks as bs = some r) (x y : Operand) (op : BinOp) (w : World) :
    (eqGuard op t x y (.agg xs) (.agg ys)).run P w = .ok () w ∧ (binOp .eql t (.agg xs) (.agg ys)).run P w = .ok (.bool r) w ∧ (binOp .neq t (.agg xs) (.agg ys)).run P w = .ok (.bool (!r)) w := by
  unfold eqable at ht
  split at ht
  · rename_i fs hfs
    split at ht
    · rename_i hc
      have hfo : P.fieldsOf t = fs := by simp [Program.fieldsOf, hfs]
      have he : (Op.equalIn 10000 t (.agg xs) (.agg ys)).run P w = .ok r w := by
        rw [run_equalIn_struct w 9999 t xs ys (by rw [hfo]; exact hfs) hc.1, hfo]
        exact flatFields_eq (d := 9998) fs.toList 0 ks as bs r ht (by simpa using h1) (by simpa using h2) hr
      exact ⟨run_eqGuard_agg w op t x y xs ys hc.2, by rw [run_eql_struct, he]; rfl, by rw [run_neq_struct, he]; rfl⟩
    · cases ht
  · cases ht

theorem s_bin (bo : BinOp) (t : TypeId) (x y : Operand) (u : TypeId) : Sound P (.binOp bo t x y u) := by
  intro oo ho g w H k env a op v H' k' hs he hl hv
  simp only [lowOp, Option.bind_eq_bind, Option.bind_eq_some_iff] at hl
  obtain ⟨x', h1, y', h2, hl⟩ := hl
  have r1 := lowX_rep he h1
  have r2 := lowX_rep he h2
  have hrun : (execOp a.eval oo).run P w = (((eqGuard bo t x y (a.eval x) (a.eval y)).run P w).andThen fun _ w' => ((binOp bo t (a.eval x) (a.eval y)).run P w').andThen fun v w'' => .ok (.value v) w'') := by
    simp only [execOp, ho, Sem.run_bind, Sem.run_pure]
    cases (eqGuard bo t x y (a.eval x) (a.eval y)).run P w <;> simp
  split at hl
  · -- ints
    rename_i q hq
    split at hl <;> simp only [Option.some.injEq, reduceCtorEq] at hl
    all_goals try
     (subst hl
      simp only [aop] at hv
      split at hv
      · rename_i q1 m q2 n hm hn
        split at hv
        · rename_i hqq
          obtain ⟨rfl, rfl⟩ := hqq
          simp only [Option.map_eq_some_iff] at hv
          obtain ⟨z, hz, e⟩ := hv
          simp only [Prod.mk.injEq] at e
          obtain ⟨rfl, rfl, rfl⟩ := e
          rw [hm] at r1
          rw [hn] at r2
          have e1 := rep_c r1
          have e2 := rep_c r2
          refine OpOK.same hs (x := z) ?_ (by simp [ARep, PRep])
          rw [hrun, e1, e2, guard_int, Result.andThen_ok, ibin_run hz]
          rfl
        · cases hv
      · cases hv)
    all_goals
      subst hl
      simp only [aop] at hv
      split at hv
      · rename_i q1 m q2 n hm hn
        split at hv
        · rename_i hqq
          obtain ⟨rfl, h0⟩ := hqq
          simp only [Option.some.injEq, Prod.mk.injEq] at hv
          obtain ⟨rfl, rfl, rfl⟩ := hv
          rw [hm] at r1
          rw [hn] at r2
          have e1 := rep_c r1
          have e2 := rep_c r2
          refine OpOK.same hs ?_ (rep_self _)
          rw [hrun, e1, e2, guard_int, Result.andThen_ok]
          have hn0 : ¬ n < 0 := by omega
          simp [binOp, Op.shift, hn0, Nat.min_def]
          try rfl
        · cases hv
      · cases hv
  · -- strings
    rename_i hq
    split at hl <;> simp only [Option.some.injEq, reduceCtorEq] at hl
    all_goals
      subst hl
      simp only [aop] at hv
      split at hv
      · rename_i m n hm hn
        simp only [Option.map_eq_some_iff] at hv
        obtain ⟨z, hz, e⟩ := hv
        simp only [Prod.mk.injEq] at e
        obtain ⟨rfl, rfl, rfl⟩ := e
        rw [hm] at r1
        rw [hn] at r2
        have e1 := rep_c r1
        have e2 := rep_c r2
        refine OpOK.same hs (x := z) ?_ (by simp [ARep, PRep])
        rw [hrun, e1, e2, guard_string, Result.andThen_ok, sbin_run hz]
        rfl
      · cases hv
  · -- bools
    rename_i hq
    split at hl <;> simp only [Option.some.injEq, reduceCtorEq] at hl
    all_goals
      subst hl
      simp only [aop] at hv
      split at hv
      · rename_i m n hm hn
        simp only [Option.some.injEq, Prod.mk.injEq] at hv
        obtain ⟨rfl, rfl, rfl⟩ := hv
        rw [hm] at r1
        rw [hn] at r2
        have e1 := rep_c r1
        have e2 := rep_c r2
        refine OpOK.same hs ?_ (rep_self _)
        rw [hrun, e1, e2, guard_bool, Result.andThen_ok]
        have heq : (Op.equal t (.bool m) (.bool n)).run P w = .ok (m == n) w := run_equalIn_bool' w 9999 t m n hq
        simp [binOp, heq]
      · cases hv
  · -- slices, to nil
    split at hl <;> simp only [Option.some.injEq, reduceCtorEq] at hl
    all_goals
      subst hl
      simp [aop] at hv
  · -- structs
    rename_i hq
    split at hl
    · rename_i ks hks
      split at hl <;> simp only [Option.some.injEq, reduceCtorEq] at hl
      all_goals
        subst hl
        simp only [aop] at hv
        split at hv
        · rename_i m n hm hn
          simp only [Option.map_eq_some_iff] at hv
          obtain ⟨z, hz, e⟩ := hv
          simp only [Prod.mk.injEq] at e
          obtain ⟨rfl, rfl, rfl⟩ := e
          rw [hm] at r1
          rw [hn] at r2
          simp only [ARep, PRep] at r1 r2
          obtain ⟨xs, e1, l1⟩ := r1
          obtain ⟨ys, e2, l2⟩ := r2
          refine OpOK.same hs ?_ (rep_self _)
          rw [hrun, e1, e2, (eqv_run hks l1 l2 hz x y _ w).1, Result.andThen_ok]
          first
            | (rw [(eqv_run hks l1 l2 hz x y .eql w).2.1]; rfl)
            | (rw [(eqv_run hks l1 l2 hz x y .eql w).2.2]; rfl)
        · cases hv
    · cases hl
  · cases hl
end Go.Abs
