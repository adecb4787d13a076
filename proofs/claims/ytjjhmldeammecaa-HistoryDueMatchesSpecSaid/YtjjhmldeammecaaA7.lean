/-
  Abs, part 7: operations that leave the owned blocks alone.
-/
import Derived.Test.YtjjhmldeammecaaA6
namespace Go.Abs
open Go

variable {P : Program}

theorem s_not (t : TypeId) (x : Operand) : Sound P (.unOp .not t x) := by
  intro oo ho g w H k env a op v H' k' hs he hl hv
  simp only [lowOp, Option.map_eq_some_iff] at hl
  obtain ⟨y, h1, rfl⟩ := hl
  have r1 := lowX_rep he h1
  simp only [aop] at hv
  split at hv
  · rename_i m hm
    simp only [Option.some.injEq, Prod.mk.injEq] at hv
    obtain ⟨rfl, rfl, rfl⟩ := hv
    rw [hm] at r1
    have e1 := rep_c r1
    exact OpOK.same hs (x := .bool (!m)) (by simp [execOp, ho, e1, Op.unary]) (rep_self _)
  · cases hv

theorem s_neg (t : TypeId) (x : Operand) : Sound P (.unOp .neg t x) := by
  intro oo ho g w H k env a op v H' k' hs he hl hv
  simp only [lowOp] at hl
  split at hl
  · rename_i q hq
    simp only [Option.bind_eq_bind, Option.bind_eq_some_iff, Option.pure_def, Option.some.injEq] at hl
    obtain ⟨y, h1, rfl⟩ := hl
    have r1 := lowX_rep he h1
    simp only [aop] at hv
    split at hv
    · rename_i q' m hm
      split at hv
      · rename_i e; subst e
        simp only [Option.some.injEq, Prod.mk.injEq] at hv
        obtain ⟨rfl, rfl, rfl⟩ := hv
        rw [hm] at r1
        have e1 := rep_c r1
        exact OpOK.same hs (by simp only [execOp, ho, e1, Op.unary, Op.intArith]; rfl) (rep_self _)
      · cases hv
    · cases hv
  · cases hl

theorem s_conv (s d : TypeId) (x : Operand) : Sound P (.convert s d x) := by
  intro oo ho g w H k env a op v H' k' hs he hl hv
  simp only [lowOp, Option.bind_eq_bind, Option.bind_eq_some_iff] at hl
  obtain ⟨y, h1, hl⟩ := hl
  have r1 := lowX_rep he h1
  split at hl
  · rename_i q1 q hq1 hq
    simp only [Option.pure_def, Option.some.injEq] at hl
    subst hl
    simp only [aop] at hv
    split at hv
    · rename_i q' m hm
      simp only [Option.some.injEq, Prod.mk.injEq] at hv
      obtain ⟨rfl, rfl, rfl⟩ := hv
      rw [hm] at r1
      have e1 := rep_c r1
      refine OpOK.same hs (x := .int q (q.wrap m)) ?_ (rep_self _)
      simp only [execOp, ho, e1, Sem.run_bind]
      simp [convert, run_underlying hq1, run_underlying hq, Conv.intToInt]
    · cases hv
  · rename_i hq1 hq
    simp only [Option.pure_def, Option.some.injEq] at hl
    subst hl
    simp only [aop] at hv
    split at hv
    · rename_i s' hm
      simp only [Option.some.injEq, Prod.mk.injEq] at hv
      obtain ⟨rfl, rfl, rfl⟩ := hv
      rw [hm] at r1
      have e1 := rep_c r1
      refine OpOK.same hs (x := .string s') ?_ (rep_self _)
      simp only [execOp, ho, e1, Sem.run_bind]
      simp [convert, run_underlying hq1, run_underlying hq]
    · cases hv
  · cases hl

theorem s_load (t : TypeId) (x : Operand) : Sound P (.load t x) := by
  intro oo ho g w H k env a op v H' k' hs he hl hv
  simp only [lowOp, Option.bind_eq_bind, Option.bind_eq_some_iff, Option.pure_def, Option.some.injEq] at hl
  obtain ⟨n, hn, agg, hagg, y, h1, rfl⟩ := hl
  have r1 := lowX_rep he h1
  have fin : ∀ {b off vs t' fr l vals}, a.eval x = .pointer (some ⟨b, off, none⟩) → w.heap[b]? = some (.cells vs t' fr) → CellsAt vs off vals → ARepL g H k l vals → ∀ {u}, cut n agg l = some u →
      (u, H, k) = (v, H', k') → OpOK g w H k ((execOp a.eval oo).run P w) v H' k' := by
    intro b off vs t' fr l vals hx hb hc hr u hu e
    simp only [Prod.mk.injEq] at e
    obtain ⟨rfl, rfl, rfl⟩ := e
    obtain ⟨z, h2, h3⟩ := load_ok (P := P) hb hc hr hn hagg hu
    exact OpOK.same hs (by simp [execOp, ho, hx, Instr.loadAt, Instr.sureAddr, h2]) h3
  simp only [aop] at hv
  split at hv
  · rename_i m off hm
    rw [hm] at r1
    split at hv
    · rename_i cs hcs
      simp only [Option.map_eq_some_iff] at hv
      obtain ⟨u, hu, e⟩ := hv
      simp only [ARep] at r1
      obtain ⟨b, hb, hx⟩ := r1.2.2 cs hcs
      obtain ⟨_, ho', _⟩ := hs.obj m _ hcs
      simp only [ORep] at ho'
      obtain ⟨b', vs, t', hb', hw, hr⟩ := ho'
      rw [hb] at hb'; cases hb'
      exact fin hx hw (vals := vs.toList.drop off) (fun j x hj => by simpa using hj) (hr.drop off) hu e
    · cases hv
  · rename_i m i j len hm
    rw [hm] at r1
    split at hv
    · rename_i rows hrows
      split at hv
      · rename_i hlen
        split at hv
        · rename_i r hri
          simp only [Option.map_eq_some_iff] at hv
          obtain ⟨u, hu, e⟩ := hv
          simp only [ARep] at r1
          obtain ⟨hle, hup⟩ := r1.2.2 rows hrows
          obtain ⟨hi, hd, b, hb, hx⟩ := hup hlen
          obtain ⟨_, ho', _⟩ := hs.obj m _ hrows
          simp only [ORep] at ho'
          obtain ⟨o1, o2, o3, o4, o6, o5⟩ := ho'
          obtain ⟨cs, t', vals, hw, hcap, hvals, hat, hsz⟩ := o5 b hb
          have hri' : (rows.drop (g.ρ m).drop)[i - (g.ρ m).drop]? = some r := by rw [List.getElem?_drop, show (g.ρ m).drop + (i - (g.ρ m).drop) = i by omega]; exact hri
          obtain ⟨vr, hv1, hv2⟩ := PRepLL.get hvals hri'
          have hc := (hat _ _ hv1).2
          rw [cutP_eq, List.map_drop] at hu
          refine fin hx hw (vals := vr.drop j) (fun j' x hj' => ?_) ((ARepL.ofP.2 hv2).drop j) hu e
          simp only [List.getElem?_drop] at hj'
          have := hc _ _ hj'
          rwa [← Nat.add_assoc] at this
        · cases hv
      · cases hv
    · cases hv
  · rename_i cells hm
    rw [hm] at r1
    simp only [Option.map_eq_some_iff] at hv
    obtain ⟨u, hu, e⟩ := hv
    simp only [ARep, PRep] at r1
    obtain ⟨b, off, cs, t', fr, vals, hx, hf, hr, hc⟩ := r1
    rw [cutP_eq] at hu
    exact fin hx (hs.fz b _ hf) hc (ARepL.ofP.2 hr) hu e
  · cases hv

theorem live_ptr {g : G} {H : Heap} {k : Nat} {x : AV} {v : Value} (hl : live H x = true) (h : ARep g H k x v) : ∃ b off, v = .pointer (some ⟨b, off, none⟩) ∧ ∀ d, ARep g H k (x.shift d) (.pointer (some ⟨b, off + d, none⟩)) := by
  cases x <;> try simp only [live, Bool.false_eq_true] at hl
  · rename_i y
    cases y <;> simp only [live, Bool.false_eq_true] at hl
    rename_i cells
    simp only [ARep, PRep] at h
    obtain ⟨b, off, cs, t, fr, vals, rfl, hf, hr, hc⟩ := h
    refine ⟨b, off, rfl, fun d => ?_⟩
    simp only [AV.shift, ARep, PRep]
    refine ⟨b, off + d, cs, t, fr, vals.drop d, rfl, hf, hr.drop d, fun j x hj => ?_⟩
    simp only [List.getElem?_drop] at hj
    have := hc _ _ hj
    rwa [← Nat.add_assoc] at this
  · rename_i m o
    split at hl
    · rename_i cs hcs
      simp only [ARep] at h
      obtain ⟨b, hb, rfl⟩ := h.2.2 cs hcs
      refine ⟨b, o, rfl, fun d => ?_⟩
      simp only [AV.shift, ARep]
      refine ⟨h.1, rfl, fun cs' hcs' => ⟨b, hb, rfl⟩⟩
    · cases hl
  · rename_i m i j len
    split at hl
    · rename_i rows hrows
      simp only [beq_iff_eq] at hl
      simp only [ARep] at h
      obtain ⟨h1, h2⟩ := h.2.2 rows hrows
      obtain ⟨hi, hd, b, hb, rfl⟩ := h2 hl
      refine ⟨b, _, rfl, fun d => ?_⟩
      simp only [AV.shift, ARep]
      refine ⟨h.1, rfl, fun rows' hrows' => ?_⟩
      rw [hrows] at hrows'; cases hrows'
      exact ⟨h1, fun _ => ⟨hi, hd, b, hb, by simp [Nat.add_assoc]⟩⟩
    · cases hl

theorem s_faddr (s : TypeId) (x : Operand) (i : Nat) : Sound P (.fieldAddr s x i) := by
  intro oo ho g w H k env a op v H' k' hs he hl hv
  simp only [lowOp] at hl
  split at hl
  · rename_i fs hfs
    split at hl
    · rename_i f hf
      split at hl
      · cases hl
      · rename_i hsz
        simp only [Option.bind_eq_bind, Option.bind_eq_some_iff, Option.pure_def, Option.some.injEq] at hl
        obtain ⟨y, h1, rfl⟩ := hl
        have r1 := lowX_rep he h1
        simp only [aop] at hv
        split at hv
        · rename_i hlive
          simp only [Option.some.injEq, Prod.mk.injEq] at hv
          obtain ⟨rfl, rfl, rfl⟩ := hv
          obtain ⟨b, off, hx, hsh⟩ := live_ptr hlive r1
          refine OpOK.same hs ?_ (hsh f.offset)
          cases hsz' : sizeT P f.type with
          | none => simp [hsz'] at hsz
          | some n =>
            have hn : n ≠ 0 := by rintro rfl; simp [hsz'] at hsz
            simp [execOp, ho, hx, Instr.fieldAt, run_underlying hfs, hf, Instr.sureAddr, fieldPlace, run_sizeT hsz', hn, add_none]
        · cases hv
    · cases hl
  · cases hl

theorem rep_aint {g : G} {H : Heap} {k : Nat} {x : AV} {v : Value} {z : Int} (h : ARep g H k x v) (hz : aint x = some z) : ∃ q, v = .int q z := by
  unfold aint at hz
  split at hz
  · cases hz; exact ⟨_, rep_c h⟩
  · cases hz

theorem s_fld (s : TypeId) (x : Operand) (i : Nat) : Sound P (.field s x i) := by
  intro oo ho g w H k env a op v H' k' hs he hl hv
  simp only [lowOp] at hl
  split at hl
  · rename_i fs hfs
    split at hl
    · rename_i f hf
      simp only [Option.bind_eq_bind, Option.bind_eq_some_iff, Option.pure_def, Option.some.injEq] at hl
      obtain ⟨n, hn, agg, hagg, y, h1, rfl⟩ := hl
      have r1 := lowX_rep he h1
      have fin : ∀ {cs : Array Value} {l : List AV} {u}, a.eval x = .agg cs → ARepL g H k l cs.toList → cut n agg (l.drop f.offset) = some u → (u, H, k) = (v, H', k') → OpOK g w H k ((execOp a.eval oo).run P w) v H' k' := by
        intro cs l u hx hr hu e
        simp only [Prod.mk.injEq] at e
        obtain ⟨rfl, rfl, rfl⟩ := e
        obtain ⟨z, h2, h3⟩ := part_ok (P := P) (w := w) (cs := cs) (off := f.offset) (hr.drop f.offset) hn hagg hu
        exact OpOK.same hs (by simp [execOp, ho, hx, Instr.field, run_underlying hfs, hf, asAgg, h2]) h3
      simp only [aop] at hv
      split at hv
      · rename_i cs hm
        rw [hm] at r1
        simp only [Option.map_eq_some_iff] at hv
        obtain ⟨u, hu, e⟩ := hv
        simp only [ARep, PRep] at r1
        obtain ⟨vs, hx, hr⟩ := r1
        rw [cutP_eq, List.map_drop] at hu
        exact fin hx (ARepL.ofP.2 hr) hu e
      · rename_i cs hm
        rw [hm] at r1
        simp only [Option.map_eq_some_iff] at hv
        obtain ⟨u, hu, e⟩ := hv
        simp only [ARep] at r1
        obtain ⟨vs, hx, hr⟩ := r1
        exact fin hx hr hu e
      · cases hv
    · cases hl
  · cases hl

theorem s_iaddr (t : TypeId) (x i : Operand) : Sound P (.indexAddr t x i) := by
  intro oo ho g w H k env a op v H' k' hs he hl hv
  simp only [lowOp] at hl
  split at hl
  · -- a slice
    rename_i e ht
    simp only [Option.bind_eq_bind, Option.bind_eq_some_iff, Option.pure_def, Option.some.injEq] at hl
    obtain ⟨n, hn, x', h1, i', h2, rfl⟩ := hl
    have r1 := lowX_rep he h1
    have r2 := lowX_rep he h2
    simp only [aop] at hv
    split at hv
    · rename_i z hz
      obtain ⟨q, hi⟩ := rep_aint r2 hz
      split at hv
      · rename_i hz0
        have fin : ∀ {b off len cap}, a.eval x = .slice (some ⟨b, off, none⟩) len cap → z.toNat < len → (execOp a.eval oo).run P w = .ok (.value (.pointer (some ⟨b, off + z.toNat * n, none⟩))) w := by
          intro b off len cap hx hlt
          have : z < (len : Int) := by omega
          simp [execOp, ho, hx, hi, Instr.indexAt, asIntOf, run_underlying ht, hz0, this, run_sizeT hn, add_none]
        split at hv
        · rename_i rows hm
          rw [hm] at r1
          split at hv
          · rename_i r hr
            split at hv
            · rename_i hrl
              simp only [Option.some.injEq, Prod.mk.injEq] at hv
              obtain ⟨rfl, rfl, rfl⟩ := hv
              simp only [ARep, PRep] at r1
              rcases r1.2 with ⟨rfl, _⟩ | ⟨b, off, cap, wd, cs, t', fr, vals, hx, hcap, hf, hvals, hat⟩
              · simp at hr
              · have hlt : z.toNat < rows.length := by
                  rcases Nat.lt_or_ge z.toNat rows.length with h | h
                  · exact h
                  · rw [List.getElem?_eq_none h] at hr; cases hr
                obtain ⟨vr, hv1, hv2⟩ := PRepLL.get hvals hr
                obtain ⟨hw, hc⟩ := hat _ _ hv1
                have hwn : wd = n := by rw [← hw, hv2.length, hrl]
                subst hwn
                refine OpOK.same hs (fin hx hlt) ?_
                simp only [ARep, PRep]
                exact ⟨b, off + z.toNat * wd, cs, t', fr, vr, rfl, hf, hv2, fun j y hj => hc j y hj⟩
            · cases hv
          · cases hv
        · rename_i m off len hm
          rw [hm] at r1
          split at hv
          · rename_i rows hrows
            split at hv
            · rename_i hup
              split at hv
              · rename_i r hr
                split at hv
                · rename_i hrl
                  simp only [Option.some.injEq, Prod.mk.injEq] at hv
                  obtain ⟨rfl, rfl, rfl⟩ := hv
                  simp only [ARep] at r1
                  obtain ⟨hle, hos⟩ := r1.2.2 rows hrows
                  obtain ⟨ad, cap, hx, hlc, hcap⟩ := hos hup.1
                  obtain ⟨_, ho', _⟩ := hs.obj m _ hrows
                  simp only [ORep] at ho'
                  obtain ⟨o1, o2, o3, o4, o6, o5⟩ := ho'
                  rcases hcap with hcap | ⟨b, hb, hdrop, hocap, rfl⟩
                  · omega
                  · have hwn : (g.ρ m).w = n := by rw [← hrl]; exact (o4 r (List.mem_of_getElem? hr)).symm
                    refine OpOK.same hs (fin hx hup.2) ?_
                    simp only [ARep]
                    refine ⟨r1.1, rfl, fun rows' hrows' => ?_⟩
                    rw [hrows] at hrows'; cases hrows'
                    refine ⟨Nat.le_refl _, fun _ => ⟨by omega, by omega, b, hb, ?_⟩⟩
                    rw [hwn]
                    congr 3
                    rw [Nat.add_zero, Nat.add_assoc, ← Nat.add_mul]
                    congr 2
                    omega
                · cases hv
              · cases hv
            · cases hv
          · cases hv
        · cases hv
      · cases hv
    · cases hv
  · -- an array
    rename_i n e ht
    simp only [Option.bind_eq_bind, Option.bind_eq_some_iff, Option.pure_def, Option.some.injEq] at hl
    obtain ⟨sz, hn, x', h1, i', h2, rfl⟩ := hl
    have r1 := lowX_rep he h1
    have r2 := lowX_rep he h2
    simp only [aop] at hv
    split at hv
    · rename_i z hz
      obtain ⟨q, hi⟩ := rep_aint r2 hz
      split at hv
      · rename_i hc
        simp only [Option.some.injEq, Prod.mk.injEq] at hv
        obtain ⟨rfl, rfl, rfl⟩ := hv
        obtain ⟨b, off, hx, hsh⟩ := live_ptr hc.2.2 r1
        have : z < (n : Int) := by omega
        refine OpOK.same hs ?_ (hsh _)
        simp [execOp, ho, hx, hi, Instr.indexAt, asIntOf, run_underlying ht, Instr.sureAddr, hc.1, this, run_sizeT hn, add_none]
      · cases hv
    · cases hv
  · cases hl

theorem s_index (t : TypeId) (x i : Operand) : Sound P (.index t x i) := by
  intro oo ho g w H k env a op v H' k' hs he hl hv
  simp only [lowOp] at hl
  split at hl
  · rename_i ht
    simp only [Option.bind_eq_bind, Option.bind_eq_some_iff, Option.pure_def, Option.some.injEq] at hl
    obtain ⟨x', h1, i', h2, rfl⟩ := hl
    have r1 := lowX_rep he h1
    have r2 := lowX_rep he h2
    simp only [aop] at hv
    split at hv
    · rename_i s z hm hz
      obtain ⟨q, hi⟩ := rep_aint r2 hz
      rw [hm] at r1
      have hx := rep_c r1
      split at hv
      · rename_i hz0
        simp only [Option.map_eq_some_iff] at hv
        obtain ⟨c, hc, e⟩ := hv
        simp only [Prod.mk.injEq] at e
        obtain ⟨rfl, rfl, rfl⟩ := e
        refine OpOK.same hs (x := .int .u8 c.toNat) ?_ (rep_self _)
        simp [execOp, ho, hx, hi, Instr.index, asIntOf, run_underlying ht, hz0, hc]
      · cases hv
    · cases hv
  · cases hl

theorem s_extract (x : Operand) (i : Nat) : Sound P (.extract x i) := by
  intro oo ho g w H k env a op v H' k' hs he hl hv
  simp only [lowOp, Option.map_eq_some_iff] at hl
  obtain ⟨y, h1, rfl⟩ := hl
  have r1 := lowX_rep he h1
  simp only [aop] at hv
  split at hv
  · rename_i cs hm
    rw [hm] at r1
    simp only [Option.map_eq_some_iff] at hv
    obtain ⟨c, hc, e⟩ := hv
    simp only [Prod.mk.injEq] at e
    obtain ⟨rfl, rfl, rfl⟩ := e
    simp only [ARep] at r1
    obtain ⟨vs, hx, hr⟩ := r1
    obtain ⟨z, h2, h3⟩ := ARepL.get hr hc
    simp only [Array.getElem?_toList] at h2
    exact OpOK.same hs (by simp [execOp, ho, hx, Instr.extract, h2]) h3
  · cases hv

theorem s_nilCheck (x : Operand) : Sound P (.nilCheck x) := by
  intro oo ho g w H k env a op v H' k' hs he hl hv
  simp only [lowOp, Option.map_eq_some_iff] at hl
  obtain ⟨y, h1, rfl⟩ := hl
  have r1 := lowX_rep he h1
  simp only [aop] at hv
  split at hv
  · rename_i hlive
    simp only [Option.some.injEq, Prod.mk.injEq] at hv
    obtain ⟨rfl, rfl, rfl⟩ := hv
    obtain ⟨b, off, hx, hsh⟩ := live_ptr hlive r1
    exact OpOK.same hs (x := a.eval x) (by simp [execOp, ho, hx]) r1
  · cases hv

theorem lowXs_rep {g : G} {H : Heap} {k : Nat} {env : Env} {a : Act} (he : ∀ t, ARep g H k (env.get t) (a.tmps.getD t undef)) : ∀ {xs : List Operand} {ys : List RX}, xs.mapM lowX = some ys →
    ARepL g H k (ys.map (St.ev ⟨env, H, k⟩)) (xs.map a.eval)
  | [], ys, h => by simp at h; subst h; simp [ARepL]
  | x :: xs, ys, h => by
    simp only [List.mapM_cons, Option.bind_eq_bind, Option.bind_eq_some_iff, Option.pure_def, Option.some.injEq] at h
    obtain ⟨y, h1, ys', h2, rfl⟩ := h
    simp only [List.map_cons, ARepL]
    exact ⟨_, _, rfl, lowX_rep he h1, lowXs_rep he h2⟩

theorem s_makeFunc (fn : Fn) (x y : Array Operand) : Sound P (.makeFunc fn x y) := by
  intro oo ho g w H k env a op v H' k' hs he hl hv
  simp only [lowOp, Option.bind_eq_bind, Option.bind_eq_some_iff, Option.pure_def, Option.some.injEq] at hl
  obtain ⟨xs, h1, ys, h2, rfl⟩ := hl
  simp only [aop, Option.some.injEq, Prod.mk.injEq] at hv
  obtain ⟨rfl, rfl, rfl⟩ := hv
  refine OpOK.same hs (x := .func fn (x.map a.eval) (y.map a.eval)) (by simp [execOp, ho, Instr.makeFunc]) ?_
  simp only [ARep]
  exact ⟨_, _, rfl, by simpa using lowXs_rep he h1, by simpa using lowXs_rep he h2⟩
end Go.Abs
