/-
  Abs, part 9: boxes, structs, slices that are made.
-/
import Derived.Test.YtjjhmldeammecaaA8
namespace Go.Abs
open Go

variable {P : Program}

theorem OpOK.new {g : G} {w : World} {H : Heap} {k : Nat} {r : Result Next} (hs : SimH g w H k) (ob : Obj) (o' : AObj) (l : Loc) (hl : l.blk = some w.heap.size ∨ l.blk = none) (v : AV) (x : Value)
    (hr : r = .ok (.value x) { w with heap := w.heap.push ob })
    (hobj : ∀ g', g'.ρ k = l → g'.fz = g.fz → Keeps g H k g' ((k, o') :: H) (k + 1) → ORep g' ((k, o') :: H) (k + 1) k { w with heap := w.heap.push ob } o')
    (hv : ∀ g', g'.ρ k = l → ARep g' ((k, o') :: H) (k + 1) v x) : OpOK g w H k r v ((k, o') :: H) (k + 1) := by
  obtain ⟨g', h1, h2, h3⟩ := SimH.new hs ob o' l hl (fun g' e hk => hobj g' (by rw [e]; simp) (by rw [e]) hk)
  exact ⟨g', _, x, .inl hr, hv g' h1, h2, h3⟩

theorem range_nil : Array.range 0 = #[] := Array.ext' (by simp)
theorem push_get (w : World) (ob : Obj) : ({ w with heap := w.heap.push ob } : World).heap[w.heap.size]? = some ob := by simp

theorem zeroT_rep {fz : Nat → Option Obj} {t : TypeId} {zs : List PV} (h : zeroT P t = some zs) : ∃ i z, P.info? t = some i ∧ i.zero = some z ∧ PRepL fz zs z.cells.toList := by
  simp only [zeroT, Option.bind_eq_some_iff] at h
  obtain ⟨z, ⟨i, h1, h2⟩, h3⟩ := h
  exact ⟨i, z, h1, h2, ofFlats_rep h3⟩

theorem s_alloc (t : TypeId) : Sound P (.alloc t) := by
  intro oo ho g w H k env a op v H' k' hs he hl hv
  simp only [lowOp, Option.map_eq_some_iff] at hl
  obtain ⟨zs, hz, rfl⟩ := hl
  obtain ⟨i, z, hi, hz', hr⟩ := zeroT_rep (fz := g.fz) hz
  simp only [aop, Option.some.injEq, Prod.mk.injEq] at hv
  obtain ⟨rfl, rfl, rfl⟩ := hv
  refine OpOK.new hs (.cells z.cells t) _ ⟨some w.heap.size, 0, 0, 0, 0⟩ (.inl rfl) _ (.pointer (some ⟨w.heap.size, 0, none⟩)) ?_ (fun g' h1 h2 hk => ?_) (fun g' h1 => ?_)
  · simp [execOp, ho, Instr.alloc, zeroValue, typeInfo, hi, hz', newVar, newRow]
  · simp only [ORep]
    exact ⟨w.heap.size, z.cells, t, by rw [h1], push_get w _, ARepL.ofP.2 (PRepL.mono hk.fz _ _ hr)⟩
  · simp only [ARep]
    exact ⟨by omega, rfl, fun cs _ => ⟨_, by rw [h1], rfl⟩⟩

theorem s_box (t : TypeId) (x : Operand) : Sound P (.box t x) := by
  intro oo ho g w H k env a op v H' k' hs he hl hv
  simp only [lowOp, Option.bind_eq_bind, Option.bind_eq_some_iff, Option.pure_def, Option.some.injEq] at hl
  obtain ⟨n, hn, y, h1, rfl⟩ := hl
  have r1 := lowX_rep he h1
  simp only [aop] at hv
  split at hv
  · rename_i l hl
    obtain ⟨c1, c2⟩ := cells_rep r1 hl
    split at hv
    · simp only [Option.some.injEq, Prod.mk.injEq] at hv
      obtain ⟨rfl, rfl, rfl⟩ := hv
      refine OpOK.new hs (.cells (a.eval x).cells t) _ ⟨some w.heap.size, 0, 0, 0, 0⟩ (.inl rfl) _ (.pointer (some ⟨w.heap.size, 0, none⟩)) ?_ (fun g' h1 h2 hk => ?_) (fun g' h1 => ?_)
      · simp [execOp, ho, Instr.box, newVar, newRow]
      · simp only [ORep]
        exact ⟨w.heap.size, _, t, by rw [h1], push_get w _, ARepL.keeps hk _ _ c1⟩
      · simp only [ARep]
        exact ⟨by omega, rfl, fun cs _ => ⟨_, by rw [h1], rfl⟩⟩
    · cases hv
  · cases hv

/-- The cells of a value, laid into others. -/
theorem fold_set (off : Nat) : ∀ (l : List Value) (i : Nat) (cs : Array Value), off + i + l.length ≤ cs.size →
    ((l.zipIdx i).foldl (fun cs (x : Value × Nat) => cs.setIfInBounds (off + x.2) x.1) cs).toList = cs.toList.take (off + i) ++ l ++ cs.toList.drop (off + i + l.length)
  | [], i, cs, _ => by simp
  | v :: l, i, cs, h => by
    simp only [List.length_cons] at h
    rw [List.zipIdx_cons, List.foldl_cons, fold_set off l (i + 1) _ (by simp; omega)]
    have e := list_seg_step cs.toList (off + i) v l (by simp; omega)
    simpa [Array.toList_setIfInBounds, Nat.add_assoc] using e

theorem fill_step (place : Nat → Option (Nat × Nat)) (cells : Array Value) (i : Nat) (v : Value) (rest : List (Nat × Value)) {off n : Nat} (hp : place i = some (off, n)) (hn : v.cells.size = n) (hf : off + n ≤ cells.size) :
    Instr.fill place cells ((i, v) :: rest) = Instr.fill place (cells.toList.take off ++ v.cells.toList ++ cells.toList.drop (off + n)).toArray rest := by
  simp only [Instr.fill, hp]
  rw [if_neg (by simp; omega)]
  congr 1
  apply Array.ext'
  have := fold_set off v.cells.toList 0 cells (by simpa [hn] using hf)
  simp only [Nat.add_zero] at this
  rw [show v.cells.toList.length = n by simpa using hn] at this
  rw [← this]
  congr 1
  rw [← Array.foldl_toList]
  simp [Array.toList_zipIdx]

theorem run_mapM_fields (w : World) (fs : List Field) {l : List (Nat × Nat)} (h : fs.mapM (fun f => (sizeT P f.type).map fun n => (f.offset, n)) = some l) :
    (fs.mapM (fun f => do pure (f.offset, ← sizeOf f.type) : Field → Sem (Nat × Nat))).run P w = .ok l w := by
  induction fs generalizing l with
  | nil => simp at h; subst h; simp
  | cons f fs ih =>
    simp only [List.mapM_cons, Option.bind_eq_bind, Option.bind_eq_some_iff, Option.map_eq_some_iff, Option.pure_def, Option.some.injEq] at h
    obtain ⟨x, ⟨n, h1, rfl⟩, l', h2, rfl⟩ := h
    simp only [List.mapM_cons, Sem.run_bind, run_sizeT h1, Result.andThen_ok, Sem.run_pure, ih h2]

theorem fill_ok {g : G} {H : Heap} {k : Nat} {env : Env} {a : Act} (he : ∀ t, ARep g H k (env.get t) (a.tmps.getD t undef)) (places : List (Nat × Nat)) :
    ∀ (parts : List (Nat × Operand)) (ps : List (Nat × Nat × RX)) (cells : Array Value) (cs cs' : List AV),
      parts.mapM (fun (x : Nat × Operand) => (do let q ← places[x.1]?; pure (q.1, q.2, ← lowX x.2) : Option (Nat × Nat × RX))) = some ps → ARepL g H k cs cells.toList → fillA (St.ev ⟨env, H, k⟩) ps cs = some cs' →
      ∃ cells', Instr.fill (places.toArray[·]?) cells (parts.map fun x => (x.1, a.eval x.2)) = some cells' ∧ ARepL g H k cs' cells'.toList
  | [], ps, cells, cs, cs', hp, hr, hf => by
    simp at hp; subst hp
    simp only [fillA, Option.some.injEq] at hf
    subst hf
    exact ⟨cells, rfl, hr⟩
  | (i, x) :: parts, ps, cells, cs, cs', hp, hr, hf => by
    simp only [List.mapM_cons, Option.bind_eq_bind, Option.bind_eq_some_iff, Option.pure_def, Option.some.injEq] at hp
    obtain ⟨_, ⟨⟨off, n⟩, hpl, y, hy, rfl⟩, ps', hps, rfl⟩ := hp
    simp only [fillA] at hf
    split at hf
    · rename_i l hl
      split at hf
      · rename_i hc
        obtain ⟨c1, c2⟩ := cells_rep (lowX_rep he hy) hl
        have hsz : (a.eval x).cells.size = n := by have := c1.length; simp only [Array.length_toList] at this; omega
        have hcl : cells.size = cs.length := by have := hr.length; simpa using this
        simp only [List.map_cons]
        rw [fill_step (off := off) (n := n) _ cells i (a.eval x) _ (by simpa using hpl) hsz (by omega)]
        exact fill_ok he places parts ps' _ _ cs' hps (((hr.take off).append c1).append (hr.drop (off + n))) hf
      · cases hf
    · cases hf

theorem s_build (t : TypeId) (parts : Array (Nat × Operand)) : Sound P (.build t parts) := by
  intro oo ho g w H k env a op v H' k' hs he hl hv
  simp only [lowOp] at hl
  split at hl
  · rename_i fs hfs
    simp only [Option.bind_eq_bind, Option.bind_eq_some_iff, Option.pure_def, Option.some.injEq] at hl
    obtain ⟨places, hpl, ps, hps, zs, hz, rfl⟩ := hl
    obtain ⟨i, z, hi, hz', hr⟩ := zeroT_rep (fz := g.fz) hz
    simp only [aop, Option.map_eq_some_iff] at hv
    obtain ⟨cs', hf, e⟩ := hv
    simp only [Prod.mk.injEq] at e
    obtain ⟨rfl, rfl, rfl⟩ := e
    obtain ⟨cells', h1, h2⟩ := fill_ok he places parts.toList ps z.cells (zs.map .p) cs' (by simpa using hps) (ARepL.ofP.2 hr) hf
    refine OpOK.same hs (x := .agg cells') ?_ (ofCells_rep h2)
    have hm := run_mapM_fields (P := P) w fs.toList hpl
    have hm' : (fs.mapM (fun f => do pure (f.offset, ← sizeOf f.type) : Field → Sem (Nat × Nat))).run P w = .ok places.toArray w := by
      rw [Array.mapM_eq_mapM_toList]
      simp only [Sem.run_map, hm, Result.andThen_ok]
    simp only [execOp, ho, Instr.build, Sem.run_bind, zeroValue, typeInfo, run_program, hi, hz', Result.andThen_ok, Sem.run_pure, run_underlying hfs, hm']
    rw [show (Array.map (fun x => match x with | (i, x) => (i, a.eval x)) parts).toList = parts.toList.map fun x => (x.1, a.eval x.2) by simp]
    simp only [h1, Sem.run_pure, Result.andThen_ok]
  · cases hl

/-- Rows of zeros in a new block. -/
theorem RowsAt.zeros (z : Array Value) (wd n : Nat) (hz : z.size = wd) : RowsAt ((Array.range (n * wd)).map (z[· % z.size]!)) 0 wd (List.replicate n z.toList) := by
  intro i r hr
  have hi : i < n := by
    rcases Nat.lt_or_ge i n with h | h
    · exact h
    · rw [List.getElem?_eq_none (by simpa using h)] at hr; cases hr
  simp only [List.getElem?_replicate, hi, if_true, Option.some.injEq] at hr
  subst hr
  refine ⟨by simpa using hz, fun j x hx => ?_⟩
  have hj : j < wd := by
    rcases Nat.lt_or_ge j wd with h | h
    · exact h
    · rw [List.getElem?_eq_none (by simpa [hz] using h)] at hx; cases hx
  have h1 : i * wd + j < n * wd := by
    have := Nat.mul_le_mul_right wd (Nat.succ_le_of_lt hi)
    simp only [Nat.succ_eq_add_one, Nat.add_mul, Nat.one_mul] at this
    omega
  have h2 : (i * wd + j) % wd = j := by rw [Nat.add_comm, Nat.add_mul_mod_self_right, Nat.mod_eq_of_lt hj]
  simp only [Nat.zero_add]
  rw [Array.getElem?_map]
  simp only [Array.getElem?_range, h1, if_true, Option.map_some, hz, h2]
  simp only [Array.getElem?_toList] at hx
  rw [getElem!_def, hx]

/-- Where a new slice's rows lie. -/
def newLoc (rows : List (List PV)) (b cap wd : Nat) : Loc := ⟨if rows = [] then none else some b, 0, 0, cap, wd⟩
theorem newLoc_blk (rows : List (List PV)) (b cap wd : Nat) : (newLoc rows b cap wd).blk = some b ∨ (newLoc rows b cap wd).blk = none := by
  unfold newLoc; dsimp; split
  · exact .inr rfl
  · exact .inl rfl

theorem rowsRep_new {g : G} {H : Heap} {k : Nat} {w : World} {rows : List (List PV)} {cs : Array Value} {t : TypeId} {vals : List (List Value)} {wd n cap : Nat} (hρ : g.ρ n = newLoc rows w.heap.size cap wd)
    (hlim : rows.length ≤ lim) (hw : ∀ r ∈ rows, r.length = wd) (hcap : rows.length ≤ cap) (hv : PRepLL g.fz rows vals) (hat : RowsAt cs 0 wd vals) (hsz : cap * wd ≤ cs.size) :
    ORep g H k n { w with heap := w.heap.push (.cells cs t) } (.slice rows) := by
  simp only [ORep, hρ, newLoc]
  refine ⟨hlim, Nat.zero_le _, fun h => ?_, hw, fun h => by simp [h], fun b hb => ?_⟩
  · rw [if_neg (by rintro rfl; simp at h)]; simp
  · split at hb
    · cases hb
    · cases hb
      exact ⟨cs, t, vals, push_get w _, hcap, by simpa using hv, hat, by simpa using hsz⟩

theorem osRep_new {g : G} {H : Heap} {k n b cap wd len : Nat} {rows : List (List PV)} (hn : n < k) (hρ : g.ρ n = newLoc rows b cap wd) (hH : H.get n = some (.slice rows)) (hl : rows.length = len) (hc : len ≤ cap) (h0 : rows = [] → cap = 0) :
    ARep g H k (.os n 0 len) (.slice (some ⟨b, 0, none⟩) len cap) := by
  simp only [ARep]
  refine ⟨hn, rfl, fun rows' h => ?_⟩
  rw [hH] at h; cases h
  refine ⟨by omega, fun _ => ⟨some ⟨b, 0, none⟩, cap, rfl, hc, ?_⟩⟩
  by_cases e : rows = []
  · exact .inl (h0 e)
  · exact .inr ⟨b, by simp [hρ, newLoc, e], by simp [hρ, newLoc], by simp [hρ, newLoc], by simp [hρ, newLoc]⟩

theorem fillRows_ok {g : G} {H : Heap} {k : Nat} {env : Env} {a : Act} (he : ∀ t, ARep g H k (env.get t) (a.tmps.getD t undef)) (wd : Nat) :
    ∀ (parts : List (Nat × Operand)) (ps : List (Nat × RX)) (cells : Array Value) (rows rows' : List (List PV)) (vals : List (List Value)),
      parts.mapM (fun (x : Nat × Operand) => (do pure (x.1, ← lowX x.2) : Option (Nat × RX))) = some ps → PRepLL g.fz rows vals → RowsAt cells 0 wd vals → (∀ r ∈ rows, r.length = wd) → rows.length * wd = cells.size →
      fillRows (St.ev ⟨env, H, k⟩) wd ps rows = some rows' →
      ∃ cells' vals', Instr.fill (fun i => some (i * wd, wd)) cells (parts.map fun x => (x.1, a.eval x.2)) = some cells' ∧ PRepLL g.fz rows' vals' ∧ RowsAt cells' 0 wd vals' ∧ (∀ r ∈ rows', r.length = wd) ∧ rows'.length = rows.length ∧ cells'.size = cells.size
  | [], ps, cells, rows, rows', vals, hp, hr, hat, hw, hsz, hf => by
    simp at hp; subst hp
    simp only [fillRows, Option.some.injEq] at hf
    subst hf
    exact ⟨cells, vals, rfl, hr, hat, hw, rfl, rfl⟩
  | (i, x) :: parts, ps, cells, rows, rows', vals, hp, hr, hat, hw, hsz, hf => by
    simp only [List.mapM_cons, Option.bind_eq_bind, Option.bind_eq_some_iff, Option.pure_def, Option.some.injEq] at hp
    obtain ⟨_, ⟨y, hy, rfl⟩, ps', hps, rfl⟩ := hp
    simp only [fillRows] at hf
    split at hf
    · rename_i l hl
      split at hf
      · rename_i hc
        simp only [Option.bind_eq_some_iff] at hl
        obtain ⟨l0, hl0, hl1⟩ := hl
        have := allP_some hl1
        subst this
        obtain ⟨c1, c2⟩ := cells_rep (lowX_rep he hy) hl0
        have c3 := ARepL.ofP.1 c1
        have hsz' : (a.eval x).cells.toList.length = wd := by have := c3.length; omega
        have hfit : i * wd + wd ≤ cells.size := by
          rw [← hsz]
          have := Nat.mul_le_mul_right wd (Nat.succ_le_of_lt hc.2)
          simpa [Nat.succ_eq_add_one, Nat.add_mul] using this
        obtain ⟨r0, hr0⟩ : ∃ r0, rows[i]? = some r0 := ⟨_, List.getElem?_eq_getElem hc.2⟩
        obtain ⟨vr, hv1, hv2⟩ := PRepLL.get hr hr0
        have hvr := (hat _ _ hv1).1
        simp only [List.map_cons]
        rw [fill_step (off := i * wd) (n := wd) _ cells i (a.eval x) _ rfl (by simpa using hsz') hfit]
        have hW := RowsAt.write (j := 0) (l := (a.eval x).cells.toList) hat hv1 (by omega) (by omega)
        simp only [Nat.zero_add, Nat.add_zero, List.take_zero, List.nil_append, hsz'] at hW
        rw [List.drop_eq_nil_of_le (by omega : vr.length ≤ wd), List.append_nil] at hW
        obtain ⟨cells', vals', f1, f2, f3, f4, f5, f6⟩ := fillRows_ok he wd parts ps' (cells.toList.take (i * wd) ++ (a.eval x).cells.toList ++ cells.toList.drop (i * wd + wd)).toArray (rows.set i l) rows' _ hps (PRepLL.set hr c3 i) hW
          (fun r hr' => by
            rcases List.mem_or_eq_of_mem_set hr' with h | rfl
            · exact hw r h
            · exact hc.1) (by simp only [List.length_set, List.size_toArray, List.length_append, List.length_take, List.length_drop, Array.length_toList, hsz']; simp only [Array.length_toList] at hsz'; omega) hf
        refine ⟨cells', vals', f1, f2, f3, f4, by simpa using f5, ?_⟩
        rw [f6]
        simp only [List.size_toArray, List.length_append, List.length_take, List.length_drop, Array.length_toList, hsz']
        simp only [Array.length_toList] at hsz'
        omega
      · cases hf
    · cases hf

theorem s_buildSlice (t : TypeId) (n : Nat) (parts : Array (Nat × Operand)) : Sound P (.buildSlice t n parts) := by
  intro oo ho g w H k env a op v H' k' hs he hl hv
  simp only [lowOp] at hl
  split at hl
  · rename_i e ht
    simp only [Option.bind_eq_bind, Option.bind_eq_some_iff] at hl
    obtain ⟨ps, hps, wd, hwd, hl⟩ := hl
    split at hl
    · cases hl
    · rename_i hbig
      simp only [Option.bind_eq_some_iff, Option.pure_def, Option.some.injEq] at hl
      obtain ⟨_, hwd', zs, hz, rfl⟩ := hl
      rw [hwd] at hwd'; cases hwd'
      obtain ⟨i, z, hi, hz', hr⟩ := zeroT_rep (fz := g.fz) hz
      simp only [aop] at hv
      split at hv
      · rename_i hzl
        simp only [Option.map_eq_some_iff] at hv
        obtain ⟨rows', hf, e'⟩ := hv
        simp only [Prod.mk.injEq] at e'
        obtain ⟨rfl, rfl, rfl⟩ := e'
        have hzs : z.cells.size = wd := by have := hr.length; simp only [Array.length_toList] at this; omega
        obtain ⟨cells', vals', f1, f2, f3, f4, f5, f6⟩ := fillRows_ok he wd parts.toList ps ((Array.range (n * wd)).map (z.cells[· % z.cells.size]!)) (List.replicate n zs) rows' (List.replicate n z.cells.toList) (by simpa using hps)
          (PRepLL.replicate hr n) (RowsAt.zeros z.cells wd n hzs) (fun r hr' => by rw [List.eq_of_mem_replicate hr']; exact hzl) (by simp) hf
        simp only [List.length_replicate] at f5
        refine OpOK.new hs (.cells cells' e) _ (newLoc rows' w.heap.size n wd) (newLoc_blk _ _ _ _) _ (.slice (some ⟨w.heap.size, 0, none⟩) n n) ?_ (fun g' h1 h2 hk => ?_) (fun g' h1 => ?_)
        · have hpm : (Array.map (fun x => (x.fst, a.eval x.snd)) parts).toList = parts.toList.map fun x => (x.1, a.eval x.2) := by simp
          have hbig' : ¬ (n * wd > 2 ^ 24) := fun h => hbig (.inr h)
          simp only [execOp, ho, Instr.buildSlice, Sem.run_bind, run_underlying ht, Result.andThen_ok, run_sizeT hwd, Sem.run_ite, if_neg hbig', Sem.run_pure]
          by_cases h0 : n * wd = 0
          · have f1' : Instr.fill (fun i => some (i * wd, wd)) (Array.map (fun x => (#[] : Array Value)[x % (#[] : Array Value).size]!) (Array.range (n * wd))) (parts.toList.map fun x => (x.1, a.eval x.2)) = some cells' := by
              rw [← f1, h0, range_nil, Array.map_empty, Array.map_empty]
            rw [if_pos h0]
            simp only [hpm, f1', newRow, Sem.run_bind, run_newObj, Result.andThen_ok, Sem.run_pure]
          · rw [if_neg h0]
            simp only [zeroValue, typeInfo, Sem.run_bind, run_program, hi, hz', Result.andThen_ok, Sem.run_pure, hpm, f1, newRow, run_newObj]
        · exact rowsRep_new h1 (by rw [f5]; unfold lim; have : ¬ n > 2 ^ 24 := fun h => hbig (.inl h); omega) f4 (by omega) (PRepLL.mono hk.fz _ _ f2) f3 (by simp [f6])
        · exact osRep_new (by omega) h1 (by simp [Heap.get]) f5 (Nat.le_refl _) (fun h => by rw [h] at f5; simpa using f5.symm)
      · cases hv
  · cases hl
end Go.Abs
