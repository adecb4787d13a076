/-
  Abs, part 11: maps, lengths, slices of slices, make, min and max.
-/
import Derived.Test.YtjjhmldeammecaaA10
namespace Go.Abs
open Go

variable {P : Program}

theorem s_len (args : Array Operand) (argTypes : Array TypeId) : Sound P (.call { callee := .builtin .len, args := args, argTypes := argTypes }) := by
  intro oo ho g w H k env a op v H' k' hs he hl hv
  simp only [lowOp, lowBuiltin] at hl
  split at hl
  · rename_i _ _ x t hargs hty
    have hargs' : args = #[x] := by apply Array.ext'; simpa using hargs
    have hexec : ∀ vx, a.eval x = vx → (execOp a.eval oo).run P w = ((Builtin.len_ argTypes oo.type #[vx]).run P w).andThen fun v w' => .ok (.value v) w' := by
      intro vx e1
      subst e1 hargs'
      simp only [execOp, ho, resolve, Sem.run_bind, Sem.run_pure, Result.andThen_ok, invoke, builtin]
      simp
    split at hl
    · -- a string
      rename_i ht
      simp only [Option.map_eq_some_iff] at hl
      obtain ⟨y, h1, rfl⟩ := hl
      have r1 := lowX_rep he h1
      simp only [aop] at hv
      split at hv
      · rename_i s hm
        rw [hm] at r1
        simp only [Option.some.injEq, Prod.mk.injEq] at hv
        obtain ⟨rfl, rfl, rfl⟩ := hv
        exact OpOK.same hs (x := goInt s.size) (by rw [hexec _ (rep_c r1)]; simp [Builtin.len_, hty, run_underlying ht]) (rep_self _)
      · cases hv
    · -- a slice
      rename_i e ht
      simp only [Option.map_eq_some_iff] at hl
      obtain ⟨y, h1, rfl⟩ := hl
      have r1 := lowX_rep he h1
      have fin : ∀ {ba n c}, a.eval x = .slice ba n c → (execOp a.eval oo).run P w = .ok (.value (goInt n)) w := by
        intro ba n c hx
        rw [hexec _ hx]; simp [Builtin.len_, hty, run_underlying ht]
      simp only [aop] at hv
      split at hv
      · rename_i rows hm
        rw [hm] at r1
        simp only [Option.some.injEq, Prod.mk.injEq] at hv
        obtain ⟨rfl, rfl, rfl⟩ := hv
        simp only [ARep, PRep] at r1
        rcases r1.2 with ⟨rfl, ba, hx⟩ | ⟨b, off, cap, wd', cs, t', fr, vals, hx, _⟩
        · exact OpOK.same hs (fin hx) (rep_self _)
        · exact OpOK.same hs (fin hx) (rep_self _)
      · rename_i hm
        rw [hm] at r1
        simp only [Option.some.injEq, Prod.mk.injEq] at hv
        obtain ⟨rfl, rfl, rfl⟩ := hv
        exact OpOK.same hs (fin (rep_c r1)) (rep_self _)
      · rename_i n off len hm
        rw [hm] at r1
        split at hv
        · rename_i rows hrows
          split at hv
          · rename_i hup
            simp only [Option.some.injEq, Prod.mk.injEq] at hv
            obtain ⟨rfl, rfl, rfl⟩ := hv
            simp only [ARep] at r1
            obtain ⟨hle, hos⟩ := r1.2.2 rows hrows
            obtain ⟨ad, cap, hx, _⟩ := hos hup
            exact OpOK.same hs (fin hx) (rep_self _)
          · cases hv
        · cases hv
      · cases hv
    · -- a map
      rename_i kt e ht
      simp only [Option.map_eq_some_iff] at hl
      obtain ⟨y, h1, rfl⟩ := hl
      have r1 := lowX_rep he h1
      simp only [aop] at hv
      split at hv
      · rename_i n hm
        rw [hm] at r1
        split at hv
        · rename_i es hes
          simp only [Option.some.injEq, Prod.mk.injEq] at hv
          obtain ⟨rfl, rfl, rfl⟩ := hv
          simp only [ARep] at r1
          obtain ⟨b, hb, hx⟩ := r1.2.2 es hes
          obtain ⟨_, ho', _⟩ := hs.obj n _ hes
          simp only [ORep] at ho'
          obtain ⟨b', ms, clock, hb', hw, hm1, hm2⟩ := ho'
          rw [hb] at hb'; cases hb'
          have := hm1.pairs.length
          simp only [List.length_map, Array.length_toList] at this
          refine OpOK.same hs (x := goInt es.length) ?_ (rep_self _)
          rw [hexec _ hx]; simp [Builtin.len_, hty, run_underlying ht, getObj, Sem.run, hw, this]
        · cases hv
      · rename_i hm
        rw [hm] at r1
        simp only [Option.some.injEq, Prod.mk.injEq] at hv
        obtain ⟨rfl, rfl, rfl⟩ := hv
        refine OpOK.same hs (x := goInt 0) ?_ (rep_self _)
        rw [hexec _ (rep_c r1)]; simp [Builtin.len_, hty, run_underlying ht]
      · rename_i es hm
        rw [hm] at r1
        simp only [Option.some.injEq, Prod.mk.injEq] at hv
        obtain ⟨rfl, rfl, rfl⟩ := hv
        simp only [ARep, PRep] at r1
        obtain ⟨b, ms, clock, hx, hf, hm1⟩ := r1
        have := hm1.length
        simp only [List.length_map, Array.length_toList] at this
        have hw := hs.fz _ _ hf
        refine OpOK.same hs (x := goInt es.length) ?_ (rep_self _)
        rw [hexec _ hx]; simp [Builtin.len_, hty, run_underlying ht, getObj, Sem.run, hw, this]
      · cases hv
    · cases hl
  · cases hl

theorem aint64s {g : G} {H : Heap} {k : Nat} {ev : RX → AV} : ∀ {l : List RX} {vs : List Value} {zs : List Int}, ARepL g H k (l.map ev) vs → l.mapM (fun x => aint64 (ev x)) = some zs → vs = zs.map (.int .i64)
  | [], vs, zs, h, hz => by simp only [List.map_nil, ARepL] at h; simp at hz; subst h hz; rfl
  | x :: l, vs, zs, h, hz => by
    simp only [List.map_cons, ARepL] at h
    obtain ⟨v, r, rfl, h1, h2⟩ := h
    simp only [List.mapM_cons, Option.bind_eq_bind, Option.bind_eq_some_iff, Option.pure_def, Option.some.injEq] at hz
    obtain ⟨z, hz1, zs', hz2, rfl⟩ := hz
    rw [aint64s h2 hz2]
    unfold aint64 at hz1
    split at hz1
    · rename_i n hm
      cases hz1
      rw [hm] at h1
      rw [rep_c h1]; rfl
    · cases hz1

theorem fold_min2 (w : World) : ∀ (r : List Int) (z : Int), ((r.map (Value.int .i64)).foldlM Builtin.min2 (.int .i64 z)).run P w = .ok (.int .i64 (r.foldl (fun a b => if b < a then b else a) z)) w
  | [], z => by simp
  | b :: r, z => by simp [Builtin.min2, fold_min2 w r]
theorem fold_max2 (w : World) : ∀ (r : List Int) (z : Int), ((r.map (Value.int .i64)).foldlM Builtin.max2 (.int .i64 z)).run P w = .ok (.int .i64 (r.foldl (fun a b => if a < b then b else a) z)) w
  | [], z => by simp
  | b :: r, z => by simp [Builtin.max2, fold_max2 w r]

theorem s_min (args : Array Operand) (argTypes : Array TypeId) : Sound P (.call { callee := .builtin .min, args := args, argTypes := argTypes }) := by
  intro oo ho g w H k env a op v H' k' hs he hl hv
  simp only [lowOp, lowBuiltin, Option.map_eq_some_iff] at hl
  obtain ⟨l, h1, rfl⟩ := hl
  have r1 := lowXs_rep he h1
  simp only [aop] at hv
  split at hv
  · rename_i z r hz
    simp only [Option.some.injEq, Prod.mk.injEq] at hv
    obtain ⟨rfl, rfl, rfl⟩ := hv
    have e := aint64s r1 hz
    refine OpOK.same hs ?_ (rep_self _)
    have e' : (Array.map a.eval args).toList = Value.int .i64 z :: r.map (Value.int .i64) := by simpa using e
    simp only [execOp, ho, resolve, Sem.run_bind, Sem.run_pure, Result.andThen_ok, invoke, builtin, Builtin.min_, e', fold_min2]
  · cases hv
theorem s_max (args : Array Operand) (argTypes : Array TypeId) : Sound P (.call { callee := .builtin .max, args := args, argTypes := argTypes }) := by
  intro oo ho g w H k env a op v H' k' hs he hl hv
  simp only [lowOp, lowBuiltin, Option.map_eq_some_iff] at hl
  obtain ⟨l, h1, rfl⟩ := hl
  have r1 := lowXs_rep he h1
  simp only [aop] at hv
  split at hv
  · rename_i z r hz
    simp only [Option.some.injEq, Prod.mk.injEq] at hv
    obtain ⟨rfl, rfl, rfl⟩ := hv
    have e := aint64s r1 hz
    refine OpOK.same hs ?_ (rep_self _)
    have e' : (Array.map a.eval args).toList = Value.int .i64 z :: r.map (Value.int .i64) := by simpa using e
    simp only [execOp, ho, resolve, Sem.run_bind, Sem.run_pure, Result.andThen_ok, invoke, builtin, Builtin.max_, e', fold_max2]
  · cases hv

theorem s_makeMap (t : TypeId) : Sound P (.makeMap t none) := by
  intro oo ho g w H k env a op v H' k' hs he hl hv
  simp only [lowOp, Option.some.injEq] at hl
  subst hl
  simp only [aop, Option.some.injEq, Prod.mk.injEq] at hv
  obtain ⟨rfl, rfl, rfl⟩ := hv
  refine OpOK.new hs (.map #[] 0) _ ⟨some w.heap.size, 0, 0, 0, 0⟩ (.inl rfl) _ (.map (some w.heap.size)) ?_ (fun g' h1 h2 hk => ?_) (fun g' h1 => ?_)
  · simp [execOp, ho, Instr.makeMap]
  · simp only [ORep]
    exact ⟨w.heap.size, #[], 0, by rw [h1], push_get w _, by simp [MRep], by simp⟩
  · simp only [ARep]
    exact ⟨by omega, rfl, fun cs _ => ⟨_, by rw [h1], rfl⟩⟩

/-! ### Keys -/
def FK.fits : FK → TypeDesc → Prop
  | .int, .int _ => True
  | .str, .string => True
  | .bool, .bool => True
  | _, _ => False
theorem fkT_desc {t : TypeId} {q : FK} (h : fkT P t = some q) : ∃ d, P.underlying t = some d ∧ q.fits d := by
  unfold fkT at h
  split at h <;> simp only [Option.some.injEq, reduceCtorEq] at h
  all_goals (subst h; refine ⟨_, by assumption, ?_⟩; exact trivial)
theorem sameNow_eq {q : FK} {d : TypeDesc} {a b : Value} {r : Bool} (hq : q.fits d) (h : flatEq q a b = some r) : Instr.sameNow d a b = some r := by
  unfold flatEq at h
  split at h
  · cases d <;> simp only [FK.fits] at hq
    split at h
    · rename_i e; cases h; simp [Instr.sameNow, e]
    · cases h
  · cases d <;> simp only [FK.fits] at hq
    cases h; rfl
  · cases d <;> simp only [FK.fits] at hq
    cases h; rfl
  · cases h
theorem run_checkKey {t : TypeId} {q : FK} (h : fkT P t = some q) (e : Bool) (n : Nat) (v : Value) (w : World) : (Instr.checkKey e (n + 1) t v).run P w = .ok () w := by
  unfold fkT at h
  split at h <;> simp only [Option.some.injEq, reduceCtorEq] at h
  all_goals (rename_i ht; simp [Instr.checkKey, run_underlying ht])

theorem mfind_ok {fz : Nat → Option Obj} {q : FK} {d : TypeDesc} (hq : q.fits d) {kv : Value} : ∀ {es : List (PV × PV)} {ms : List MapEntry} {r : Option PV} (i : Nat), PRepM fz es (ms.map fun m => (m.key, m.val)) → mfind q (.c kv) es = some r →
    match r with
    | none => Instr.findNow d kv ms i = some none
    | some x => ∃ j v, Instr.findNow d kv ms i = some (some (j, v)) ∧ PRep fz x v
  | [], ms, r, i, h, hf => by
    simp only [PRepM, List.map_eq_nil_iff] at h; subst h
    simp only [mfind, Option.some.injEq] at hf; subst hf
    rfl
  | (ek, ev) :: es, [], r, i, h, hf => by
    simp [PRepM] at h
  | (ek, ev) :: es, m :: ms', r, i, h, hf => by
    simp only [PRepM, List.map_cons, List.cons.injEq, Prod.mk.injEq] at h
    obtain ⟨ka, va, r', ⟨⟨e1, e2⟩, e3⟩, h1, h2, h4⟩ := h
    subst e1 e2 e3
    simp only [mfind] at hf
    split at hf
    · rename_i a b hkey
      cases hkey
      simp only [PRep] at h1
      split at hf
      · rename_i heq
        cases hf
        exact ⟨i, m.val, by simp [Instr.findNow, h1, sameNow_eq hq heq], h2⟩
      · rename_i heq
        have ih := mfind_ok hq (i + 1) h4 hf
        have hstep : Instr.findNow d kv (m :: ms') i = Instr.findNow d kv ms' (i + 1) := by simp [Instr.findNow, h1, sameNow_eq hq heq]
        rw [hstep]; exact ih
      · cases hf
    · cases hf

theorem run_findKey {kt : TypeId} {d : TypeDesc} (hd : P.underlying kt = some d) {kv : Value} {ms : List MapEntry} {fr : Option (Nat × Value)} (hf : Instr.findNow d kv ms 0 = some fr) (w : World) : (Instr.findKey kt kv ms).run P w = .ok fr w := by
  simp [Instr.findKey, run_underlying hd, hf]

theorem run_lookup {t kt e : TypeId} {q : FK} (ht : P.underlying t = some (.map kt e)) (hq : fkT P kt = some q) {w : World} {mv kv z : Value} (hz : (zeroValue e).run P w = .ok z w) {es' : Array MapEntry} {fr : Option (Nat × Value)}
    (hm : (mv = .map none ∧ es' = #[]) ∨ ∃ b clock, mv = .map (some b) ∧ w.heap[b]? = some (.map es' clock)) {d : TypeDesc} (hd : P.underlying kt = some d) (hf : Instr.findNow d kv es'.toList 0 = some fr) (ok : Bool) :
    (Instr.lookup t mv kv ok).run P w = .ok (if ok then .tuple #[(fr.map (·.2)).getD z, .bool fr.isSome] else (fr.map (·.2)).getD z) w := by
  have hck : (Instr.checkKey es'.isEmpty 10000 kt kv).run P w = .ok () w := run_checkKey hq _ 9999 kv w
  have hfk := run_findKey (P := P) hd hf w
  rcases hm with ⟨rfl, rfl⟩ | ⟨b, clock, rfl, hb⟩
  · simp only [Instr.lookup, Sem.run_bind, run_underlying ht, Result.andThen_ok, Sem.run_pure, hck, hfk]
    cases fr with
    | none => simp [hz]
    | some x => obtain ⟨j, v⟩ := x; simp
  · have hg : (getObj b).run P w = .ok (.map es' clock) w := by simp [getObj, Sem.run, hb]
    simp only [Instr.lookup, Sem.run_bind, run_underlying ht, Result.andThen_ok, hg, Sem.run_pure, hck, hfk]
    cases fr with
    | none => simp [hz]
    | some x => obtain ⟨j, v⟩ := x; simp

theorem s_lookup (t : TypeId) (m key : Operand) (ok : Bool) : Sound P (.lookup t m key ok) := by
  intro oo ho g w H k env a op v H' k' hs he hl hv
  simp only [lowOp] at hl
  split at hl
  · rename_i kt e ht
    simp only [Option.bind_eq_bind, Option.bind_eq_some_iff, Option.pure_def, Option.some.injEq] at hl
    obtain ⟨q, hq, zero, hz, m', h1, key', h2, rfl⟩ := hl
    have r1 := lowX_rep he h1
    have r2 := lowX_rep he h2
    obtain ⟨d, hd, hqd⟩ := fkT_desc hq
    simp only [zeroV, Option.bind_eq_some_iff] at hz
    obtain ⟨z, ⟨i, hi, hz0⟩, hz1⟩ := hz
    have hzero : (zeroValue e).run P w = .ok z w := by simp [zeroValue, typeInfo, hi, hz0]
    have hzr : PRep g.fz zero z := ofValue_rep hz1
    simp only [aop] at hv
    split at hv
    · rename_i kv hk
      rw [hk] at r2
      have hkv := rep_c r2
      split at hv
      · rename_i es hes
        split at hv
        · rename_i r hr
          simp only [Option.some.injEq, Prod.mk.injEq] at hv
          obtain ⟨rfl, rfl, rfl⟩ := hv
          have hent : ∃ es' : Array MapEntry, ((a.eval m = .map none ∧ es' = #[]) ∨ ∃ b clock, a.eval m = .map (some b) ∧ w.heap[b]? = some (.map es' clock)) ∧ PRepM g.fz es (es'.toList.map fun m => (m.key, m.val)) := by
            split at hes
            · rename_i n hm
              rw [hm] at r1
              split at hes
              · rename_i es0 hes0
                cases hes
                simp only [ARep] at r1
                obtain ⟨b, hb, hx⟩ := r1.2.2 es hes0
                obtain ⟨_, ho', _⟩ := hs.obj n _ hes0
                simp only [ORep] at ho'
                obtain ⟨b', ms, clock, hb', hw, hm1, hm2⟩ := ho'
                rw [hb] at hb'; cases hb'
                exact ⟨ms, .inr ⟨b, clock, hx, hw⟩, hm1.pairs⟩
              · cases hes
            · rename_i hm
              rw [hm] at r1
              cases hes
              exact ⟨#[], .inl ⟨rep_c r1, rfl⟩, by simp [PRepM]⟩
            · rename_i es0 hm
              rw [hm] at r1
              cases hes
              simp only [ARep, PRep] at r1
              obtain ⟨b, ms, clock, hx, hf, hm1⟩ := r1
              exact ⟨ms, .inr ⟨b, clock, hx, hs.fz _ _ hf⟩, hm1⟩
            · cases hes
          obtain ⟨es', hm, hmr⟩ := hent
          have hfind := mfind_ok hqd 0 hmr hr
          obtain ⟨fr, hfr, hrep, hsome⟩ : ∃ fr, Instr.findNow d kv es'.toList 0 = some fr ∧ PRep g.fz (r.getD zero) ((fr.map (·.2)).getD z) ∧ fr.isSome = r.isSome := by
            cases r with
            | none => exact ⟨none, hfind, by simpa using hzr, rfl⟩
            | some x =>
              obtain ⟨j, v, h3, h4⟩ := hfind
              exact ⟨some (j, v), h3, by simpa using h4, rfl⟩
          have hrun := run_lookup (P := P) ht hq hzero hm hd hfr ok
          rw [← hkv] at hrun
          refine OpOK.same hs (x := if ok then .tuple #[(fr.map (·.2)).getD z, .bool fr.isSome] else (fr.map (·.2)).getD z) (by simp only [execOp, ho, Sem.run_bind, hrun, Result.andThen_ok, Sem.run_pure]) ?_
          rw [hsome]
          cases ok
          · simpa [ARep] using hrep
          · simp only [if_true, ARep]
            refine ⟨_, rfl, ?_⟩
            simp only [ARepL, ARep]
            exact ⟨_, _, rfl, hrep, _, _, rfl, by simp [PRep], rfl⟩
        · cases hv
      · cases hv
    · cases hv
  · cases hl

theorem ba_beq (a b : ByteArray) : (a == b) = true ↔ a = b := by
  obtain ⟨⟨x⟩⟩ := a
  obtain ⟨⟨y⟩⟩ := b
  show ((⟨x⟩ : Array UInt8) == ⟨y⟩) = true ↔ _
  simp
theorem sameBits_flat {q : FK} {a b : Value} (h : flatEq q a b = some true) : Instr.sameBits 10000 b a = true := by
  unfold flatEq at h
  split at h
  · split at h
    · rename_i e; subst e
      simp only [Option.some.injEq, beq_iff_eq] at h
      subst h; simp [Instr.sameBits]
    · cases h
  · simp only [Option.some.injEq] at h
    have := (ba_beq _ _).1 h
    subst this
    simp only [Instr.sameBits]
    exact h
  · simp only [Option.some.injEq, beq_iff_eq] at h
    subst h; simp [Instr.sameBits]
  · cases h

theorem mput_ok {fz : Nat → Option Obj} {clock : Nat} {q : FK} {d : TypeDesc} (hq : q.fits d) {kv : Value} {x : PV} : ∀ {es es' : List (PV × PV)} {ms : List MapEntry} (i : Nat), MRep fz clock es ms → mput q (.c kv) x es = some es' →
    (Instr.findNow d kv ms i = some none ∧ es' = es ++ [(.c kv, x)]) ∨
    ∃ j e, ms[j]? = some e ∧ Instr.findNow d kv ms i = some (some (i + j, e.val)) ∧ Instr.sameBits 10000 e.key kv = true ∧ ∀ u, PRep fz x u → MRep fz clock es' (ms.set j { e with key := kv, val := u })
  | [], es', ms, i, h, hf => by
    simp only [MRep] at h; subst h
    simp only [mput, Option.some.injEq] at hf; subst hf
    exact .inl ⟨rfl, rfl⟩
  | e :: es, es', ms, i, h, hf => by
    simp only [MRep] at h
    obtain ⟨m, ms', rfl, h1, h2, h3, h4⟩ := h
    simp only [mput] at hf
    split at hf
    · rename_i b hb hkey
      cases hb
      rw [hkey] at h1
      simp only [PRep] at h1
      split at hf
      · rename_i heq
        cases hf
        refine .inr ⟨0, m, rfl, by simp [Instr.findNow, h1, sameNow_eq hq heq], by rw [h1]; exact sameBits_flat heq, fun u hu => ?_⟩
        simp only [List.set_cons_zero, MRep]
        exact ⟨_, _, rfl, by simp [PRep], hu, h3, h4⟩
      · rename_i heq
        simp only [Option.map_eq_some_iff] at hf
        obtain ⟨es2, hf, rfl⟩ := hf
        have hstep : Instr.findNow d kv (m :: ms') i = Instr.findNow d kv ms' (i + 1) := by simp [Instr.findNow, h1, sameNow_eq hq heq]
        rcases mput_ok hq (i + 1) h4 hf with ⟨ih1, ih2⟩ | ⟨j, e', j1, j2, j3, j4⟩
        · exact .inl ⟨by rw [hstep]; exact ih1, by simp [ih2]⟩
        · refine .inr ⟨j + 1, e', by simpa using j1, by rw [hstep, j2]; simp [Nat.add_assoc, Nat.add_comm 1 j], j3, fun u hu => ?_⟩
          simp only [List.set_cons_succ, MRep]
          exact ⟨_, _, rfl, by rw [hkey]; simpa [PRep] using h1, h2, h3, j4 u hu⟩
      · cases hf
    · cases hf

theorem MRep.append {fz : Nat → Option Obj} {clock clock' : Nat} (hc : clock ≤ clock') : ∀ {es : List (PV × PV)} {ms : List MapEntry}, MRep fz clock es ms → ∀ {e : PV × PV} {m : MapEntry}, PRep fz e.1 m.key → PRep fz e.2 m.val → m.born < clock' → MRep fz clock' (es ++ [e]) (ms ++ [m])
  | [], ms, h, e, m, h1, h2, h3 => by
    simp only [MRep] at h; subst h
    simp only [List.nil_append, MRep]
    exact ⟨m, [], rfl, h1, h2, h3, rfl⟩
  | x :: es, ms, h, e, m, h1, h2, h3 => by
    simp only [MRep] at h
    obtain ⟨y, r, rfl, a1, a2, a3, a4⟩ := h
    simp only [List.cons_append, MRep]
    exact ⟨y, _, rfl, a1, a2, Nat.lt_of_lt_of_le a3 hc, MRep.append hc a4 h1 h2 h3⟩
theorem MRep.born {fz : Nat → Option Obj} {clock : Nat} : ∀ {es : List (PV × PV)} {ms : List MapEntry}, MRep fz clock es ms → ∀ m ∈ ms, m.born < clock
  | [], ms, h, m, hm => by simp only [MRep] at h; subst h; cases hm
  | x :: es, ms, h, m, hm => by
    simp only [MRep] at h
    obtain ⟨y, r, rfl, a1, a2, a3, a4⟩ := h
    cases hm with
    | head => exact a3
    | tail _ hm => exact MRep.born a4 m hm

theorem s_mapUpdate' (t : TypeId) (m key val : Operand) (o0 : Op) (ho0 : o0 = .mapUpdate t m key val ∨ o0 = .insert t m key val) : Sound P o0 := by
  intro oo ho g w H k env a op v H' k' hs he hl hv
  have hlow : lowOp P o0 = lowOp P (.mapUpdate t m key val) := by rcases ho0 with rfl | rfl <;> rfl
  rw [hlow] at hl
  have hex : (execOp a.eval oo).run P w = ((Instr.mapUpdate t (a.eval m) (a.eval key) (a.eval val)).run P w).andThen fun _ w' => .ok .skip w' := by
    rcases ho0 with rfl | rfl <;> simp [execOp, ho]
  simp only [lowOp] at hl
  split at hl
  · rename_i kt e ht
    simp only [Option.bind_eq_bind, Option.bind_eq_some_iff, Option.pure_def, Option.some.injEq] at hl
    obtain ⟨q, hq, m', h1, key', h2, val', h3, rfl⟩ := hl
    have r1 := lowX_rep he h1
    have r2 := lowX_rep he h2
    have r3 := lowX_rep he h3
    obtain ⟨d, hd, hqd⟩ := fkT_desc hq
    simp only [aop] at hv
    split at hv
    · rename_i n kv x hm hk hx
      rw [hm] at r1
      rw [hk] at r2
      rw [hx] at r3
      have hkv := rep_c r2
      simp only [ARep] at r3
      split at hv
      · rename_i es hes
        simp only [Option.map_eq_some_iff] at hv
        obtain ⟨es', hput, e'⟩ := hv
        simp only [Prod.mk.injEq] at e'
        obtain ⟨rfl, rfl, rfl⟩ := e'
        simp only [ARep] at r1
        obtain ⟨b, hb, hxm⟩ := r1.2.2 es hes
        obtain ⟨_, ho', hblk⟩ := hs.obj n _ hes
        simp only [ORep] at ho'
        obtain ⟨b', ms, clock, hb', hw, hm1, hm2⟩ := ho'
        rw [hb] at hb'; cases hb'
        have hlt := (hblk b hb).2
        have hck : (Instr.checkKey false 10000 kt kv).run P w = .ok () w := run_checkKey hq _ 9999 kv w
        have fin : ∀ (ms' : Array MapEntry) (clock' : Nat), (Instr.mapUpdate t (.map (some b)) kv (a.eval val)).run P w = .ok () { w with heap := w.heap.setIfInBounds b (.map ms' clock') } →
            (∀ g', Keeps g H k g' (H.set n (.map es')) k → MRep g'.fz clock' es' ms'.toList) → (ms'.toList.map (·.born)).Nodup → OpOK g w H k ((execOp a.eval oo).run P w) .junk (H.set n (.map es')) k := by
          intro ms' clock' hrun hmr hnd
          refine OpOK.skip (w' := { w with heap := w.heap.setIfInBounds b (.map ms' clock') }) (by rw [hex, hxm, hkv, hrun]; rfl) (SimH.put hs hes hb rfl rfl rfl rfl (by simp) (fun b' hb' => by simp [Array.getElem?_setIfInBounds, Ne.symm hb']) fun hk' => ?_)
          simp only [ORep]
          exact ⟨b, ms', clock', hb, by simp [hlt], hmr g hk', hnd⟩
        rcases mput_ok hqd 0 hm1 hput with ⟨hf, rfl⟩ | ⟨j, en, hj, hf, hsame, hset⟩
        · have hfk := run_findKey (P := P) hd hf w
          refine fin (ms.push { key := kv, val := a.eval val, born := clock }) (clock + 1) ?_ ?_ ?_
          · simp [Instr.mapUpdate, run_underlying ht, getObj, setObj, Sem.run, hw, hck, hfk]
          · intro g' hk'
            rw [Array.toList_push]
            exact MRep.append (Nat.le_succ _) (MRep.mono hk'.fz (Nat.le_refl _) _ _ hm1) (by simp [PRep]) (PRep.mono hk'.fz _ _ r3) (Nat.lt_succ_self _)
          · rw [Array.toList_push, List.map_append, List.nodup_append]
            refine ⟨hm2, by simp, ?_⟩
            intro c hc c' hc'
            simp only [List.map_cons, List.map_nil, List.mem_singleton] at hc'
            subst hc'
            obtain ⟨mm, hmm, rfl⟩ := List.mem_map.1 hc
            have := MRep.born hm1 mm hmm
            omega
        · have hfk := run_findKey (P := P) hd hf w
          simp only [Nat.zero_add] at hfk
          have hj' : ms[j]? = some en := by simpa using hj
          have hjl : j < ms.size := by
            rcases Nat.lt_or_ge j ms.size with h | h
            · exact h
            · rw [Array.getElem?_eq_none h] at hj'; cases hj'
          have hje : ms[j] = en := by simpa [Array.getElem?_eq_getElem hjl] using hj'
          have hmod : (ms.modify j fun e => { e with key := kv, val := a.eval val }).toList = ms.toList.set j { en with key := kv, val := a.eval val } := by
            apply List.ext_getElem?
            intro i
            rw [Array.toList_modify, List.getElem?_modify, List.getElem?_set]
            by_cases hij : j = i
            · subst hij
              simp [hj', hjl, hje]
            · simp [hij]
          refine fin (ms.modify j fun e => { e with key := kv, val := a.eval val }) clock ?_ ?_ ?_
          · simp [Instr.mapUpdate, run_underlying ht, getObj, setObj, Sem.run, hw, hck, hfk, Instr.keyThatStays, hj', hsame]
          · intro g' hk'
            rw [hmod]
            exact MRep.mono hk'.fz (Nat.le_refl _) _ _ (hset _ r3)
          · rw [hmod]
            have : (ms.toList.set j { en with key := kv, val := a.eval val }).map (·.born) = ms.toList.map (·.born) := by
              rw [List.map_set]
              apply List.ext_getElem?
              intro i
              rw [List.getElem?_set]
              split
              · rename_i hij; subst hij
                simp [hj', hjl, hje]
              · rfl
            rw [this]; exact hm2
      · cases hv
    · cases hv
  · cases hl
theorem s_mapUpdate (t : TypeId) (m key val : Operand) : Sound P (.mapUpdate t m key val) := s_mapUpdate' t m key val _ (.inl rfl)
theorem s_insert (t : TypeId) (m key val : Operand) : Sound P (.insert t m key val) := s_mapUpdate' t m key val _ (.inr rfl)
end Go.Abs
