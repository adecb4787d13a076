/-
  Abs, part 12: slicing, make of a slice; all operations together.
-/
import Derived.Test.YtjjhmldeammecaaA11
namespace Go.Abs
open Go

variable {P : Program}

def lowO (o : Option Operand) : Option (Option RX) := match o with | none => some none | some y => (lowX y).map some

theorem optRep {g : G} {H : Heap} {k : Nat} {env : Env} {a : Act} (he : ∀ t, ARep g H k (env.get t) (a.tmps.getD t undef)) {o : Option Operand} {r : Option RX} (h : lowO o = some r) {d z : Int}
    (hz : bnd (St.ev ⟨env, H, k⟩) d r = some z) : (o = none ∧ z = d) ∨ ∃ y q, o = some y ∧ a.eval y = .int q z := by
  cases o with
  | none =>
    have h' : some none = some r := h
    cases h'
    have hz' : some d = some z := hz
    cases hz'
    exact .inl ⟨rfl, rfl⟩
  | some y =>
    simp only [lowO, Option.map_eq_some_iff] at h
    obtain ⟨y', h1, rfl⟩ := h
    obtain ⟨q, hq⟩ := rep_aint (lowX_rep he h1) (by simpa [bnd] using hz)
    exact .inr ⟨y, q, rfl, hq⟩

theorem run_bounds {isSlice : Bool} {len cap : Nat} {low high : Option Value} {l h : Int} (hl : (low = none ∧ l = 0) ∨ ∃ q, low = some (.int q l)) (hh : (high = none ∧ h = len) ∨ ∃ q, high = some (.int q h))
    (h0 : 0 ≤ l) (h1 : l ≤ h) (h2 : h ≤ len) (hc : len ≤ cap) (w : World) : (Instr.sliceBounds isSlice len cap low high none).run P w = .ok (l.toNat, h.toNat, cap) w := by
  have b1 : 0 ≤ h := by omega
  have b2 : h ≤ (cap : Int) := by omega
  have b3 : l ≤ (h.toNat : Int) := by omega
  have b4 : l ≤ (len : Int) := by omega
  rcases hl with ⟨rfl, rfl⟩ | ⟨q, rfl⟩ <;> rcases hh with ⟨rfl, rfl⟩ | ⟨q', rfl⟩ <;>
    simp [Instr.sliceBounds, Instr.sliceBound, asIntOf, h0, b1, b2, b3, b4]
  intro hlt
  omega

theorem s_slice (t : TypeId) (x : Operand) (lo hi : Option Operand) : Sound P (.slice t x lo hi none) := by
  intro oo ho g w H k env a op v H' k' hs he hl hv
  have hlow : lowOp P (.slice t x lo hi none) = (match P.underlying t with
    | some .string => do pure (.ssl (← lowX x) (← lowO lo) (← lowO hi))
    | some (.slice e) => do pure (.lsl (← sizeT P e) (← lowX x) (← lowO lo) (← lowO hi))
    | _ => none) := rfl
  rw [hlow] at hl
  split at hl
  · -- a string
    rename_i ht
    simp only [Option.bind_eq_bind, Option.bind_eq_some_iff, Option.pure_def, Option.some.injEq] at hl
    obtain ⟨x', h1, lo', h2, hi', h3, rfl⟩ := hl
    have r1 := lowX_rep he h1
    simp only [aop] at hv
    split at hv
    · rename_i s hm
      rw [hm] at r1
      have hx := rep_c r1
      split at hv
      · rename_i l h hl hh
        split at hv
        · rename_i hc
          simp only [Option.some.injEq, Prod.mk.injEq] at hv
          obtain ⟨rfl, rfl, rfl⟩ := hv
          have e1 := optRep he h2 hl
          have e2 := optRep he h3 hh
          have hb := run_bounds (P := P) (isSlice := false) (len := s.size) (cap := s.size) (low := lo.map a.eval) (high := hi.map a.eval) (l := l) (h := h)
            (by rcases e1 with ⟨rfl, rfl⟩ | ⟨y, q, rfl, e⟩; exact .inl ⟨rfl, rfl⟩; exact .inr ⟨q, by simp [e]⟩)
            (by rcases e2 with ⟨rfl, rfl⟩ | ⟨y, q, rfl, e⟩; exact .inl ⟨rfl, rfl⟩; exact .inr ⟨q, by simp [e]⟩) hc.1 hc.2.1 hc.2.2 (Nat.le_refl _) w
          refine OpOK.same hs (x := .string (s.extract l.toNat h.toNat)) ?_ (rep_self _)
          simp [execOp, ho, hx, Instr.sliceAt, Instr.slice, run_underlying ht, hb]
        · cases hv
      · cases hv
    · cases hv
  · -- a slice
    rename_i e ht
    simp only [Option.bind_eq_bind, Option.bind_eq_some_iff, Option.pure_def, Option.some.injEq] at hl
    obtain ⟨wd, hwd, x', h1, lo', h2, hi', h3, rfl⟩ := hl
    have r1 := lowX_rep he h1
    have fin : ∀ {ba : Option Addr} {len cap : Nat} {l h : Int}, a.eval x = .slice ba len cap → ((lo = none ∧ l = 0) ∨ ∃ y q, lo = some y ∧ a.eval y = .int q l) → ((hi = none ∧ h = len) ∨ ∃ y q, hi = some y ∧ a.eval y = .int q h) →
        0 ≤ l → l ≤ h → h ≤ len → len ≤ cap → (execOp a.eval oo).run P w = .ok (.value (.slice (if cap = l.toNat then ba else ba.map (·.add (l.toNat * wd))) (h.toNat - l.toNat) (cap - l.toNat))) w := by
      intro ba len cap l h hx e1 e2 c1 c2 c3 c4
      have hb := run_bounds (P := P) (isSlice := true) (len := len) (cap := cap) (low := lo.map a.eval) (high := hi.map a.eval) (l := l) (h := h)
        (by rcases e1 with ⟨rfl, rfl⟩ | ⟨y, q, rfl, e⟩; exact .inl ⟨rfl, rfl⟩; exact .inr ⟨q, by simp [e]⟩)
        (by rcases e2 with ⟨rfl, rfl⟩ | ⟨y, q, rfl, e⟩; exact .inl ⟨rfl, rfl⟩; exact .inr ⟨q, by simp [e]⟩) c1 c2 c3 c4 w
      simp [execOp, ho, hx, Instr.sliceAt, Instr.slice, run_underlying ht, hb, run_sizeT hwd]
    simp only [aop] at hv
    split at hv
    · rename_i rows hm
      rw [hm] at r1
      split at hv
      · rename_i l h hl hh
        split at hv
        · rename_i hc
          obtain ⟨c1, c2, c3, c4⟩ := hc
          simp only [Option.some.injEq, Prod.mk.injEq] at hv
          obtain ⟨rfl, rfl, rfl⟩ := hv
          have e1 := optRep he h2 hl
          have e2 := optRep he h3 hh
          simp only [ARep, PRep] at r1
          obtain ⟨hlim, hr⟩ := r1
          rcases hr with ⟨rfl, ba, hx⟩ | ⟨b, off, cap, wd', cs, t', fr, vals, hx, hcap, hf, hvals, hat⟩
          · have hh0 : h = 0 := by simp at c3; omega
            have hl0 : l = 0 := by omega
            subst hh0 hl0
            refine OpOK.same hs (fin hx e1 e2 (by omega) (by omega) (by simp) (Nat.le_refl _)) ?_
            simp [ARep, PRep, top]
          · refine OpOK.same hs (fin hx e1 e2 c1 c2 (by omega) hcap) ?_
            simp only [ARep, PRep]
            have hlen : ((rows.take h.toNat).drop l.toNat).length = h.toNat - l.toNat := by simp; omega
            refine ⟨by rw [hlen]; omega, ?_⟩
            by_cases hcl : cap = l.toNat
            · -- nothing left, at the end of the room
              have hz : (rows.take h.toNat).drop l.toNat = [] := List.eq_nil_of_length_eq_zero (by omega)
              refine .inr ⟨b, off, cap - l.toNat, wd', cs, t', fr, [], ?_, by rw [hz]; simp, hf, by rw [hz]; simp [PRepLL], fun i r h => by simp at h⟩
              rw [hlen, if_pos hcl]
            · refine .inr ⟨b, off + l.toNat * wd', cap - l.toNat, wd', cs, t', fr, (vals.take h.toNat).drop l.toNat, ?_, by rw [hlen]; omega, hf, ?_, ?_⟩
              · rw [hlen, if_neg hcl]
                by_cases hne : rows = []
                · have : h.toNat = 0 := by rw [hne] at c3; simp at c3; omega
                  have : l.toNat = 0 := by omega
                  simp [add_none, this]
                · have hw' : wd' = wd := by
                    obtain ⟨r, hr⟩ := List.exists_mem_of_ne_nil _ hne
                    obtain ⟨i, hi⟩ := List.getElem?_of_mem hr
                    obtain ⟨vr, hv1, hv2⟩ := PRepLL.get hvals hi
                    rw [← (hat _ _ hv1).1, hv2.length, c4 r hr]
                  simp [add_none, hw']
              · exact (PRepLL.take' hvals h.toNat).drop l.toNat
              · refine RowsAt.drop (fun i r hr => hat i r (take_get hr)) l.toNat
        · cases hv
      · cases hv
    · rename_i n off len hm
      rw [hm] at r1
      split at hv
      · rename_i rows hrows
        split at hv
        · rename_i l hl
          split at hv
          · rename_i hc
            obtain ⟨c1, c2, c3, c4⟩ := hc
            simp only [Option.some.injEq, Prod.mk.injEq] at hv
            obtain ⟨rfl, rfl, rfl⟩ := hv
            have hhi : hi = none := by cases hi with | none => rfl | some y => simp [lowO] at h3
            have e1 := optRep he h2 hl
            simp only [ARep] at r1
            obtain ⟨hnk, _, hos⟩ := r1
            obtain ⟨hle, hos⟩ := hos rows hrows
            obtain ⟨ad, cap, hx, hlc, hcap⟩ := hos c3
            refine OpOK.same hs (fin (h := len) hx e1 (.inl ⟨hhi, rfl⟩) c1 c2 (by omega) hlc) ?_
            simp only [ARep]
            refine ⟨hnk, rfl, fun rows' h => ?_⟩
            rw [hrows] at h; cases h
            refine ⟨by omega, fun _ => ⟨if cap = l.toNat then ad else ad.map (·.add (l.toNat * wd)), cap - l.toNat, by simp, by omega, ?_⟩⟩
            by_cases hcl : cap = l.toNat
            · exact .inl (by omega)
            · rcases hcap with h0 | ⟨b, hb, hdrop, hocap, rfl⟩
              · omega
              · obtain ⟨_, ho', _⟩ := hs.obj n _ hrows
                simp only [ORep] at ho'
                obtain ⟨o1, o2, o3, o4, o6, o5⟩ := ho'
                have hw' : (g.ρ n).w = wd := by
                  cases hrw : rows with
                  | nil => rw [o6 hrw] at hb; cases hb
                  | cons r rs => rw [← o4 r (by rw [hrw]; simp)]; exact c4 r (by rw [hrw]; simp)
                refine .inr ⟨b, hb, by omega, by omega, ?_⟩
                rw [if_neg hcl]
                simp only [Option.map_some, add_none, hw']
                congr 2
                rw [Nat.add_assoc, ← Nat.add_mul]
                congr 2
                omega
          · cases hv
        · cases hv
      · cases hv
    · cases hv
  · cases hl
theorem s_makeSlice (t : TypeId) (l c : Operand) : Sound P (.makeSlice t l c) := by
  intro oo ho g w H k env a op v H' k' hs he hl hv
  simp only [lowOp] at hl
  split at hl
  · rename_i e ht
    simp only [Option.bind_eq_bind, Option.bind_eq_some_iff, Option.map_eq_some_iff, Option.pure_def, Option.some.injEq] at hl
    obtain ⟨wd, hwd, bytes, ⟨i, hi, rfl⟩, zs, hz, l', h1, c', h2, rfl⟩ := hl
    obtain ⟨i', z, hi', hz', hr⟩ := zeroT_rep (fz := g.fz) hz
    rw [hi] at hi'; cases hi'
    have hisz : i.size = wd := by simpa [sizeT, hi] using hwd
    have r1 := lowX_rep he h1
    have r2 := lowX_rep he h2
    simp only [aop] at hv
    split at hv
    · rename_i x y hx hy
      obtain ⟨q1, e1⟩ := rep_aint r1 hx
      obtain ⟨q2, e2⟩ := rep_aint r2 hy
      split at hv
      · rename_i hc
        obtain ⟨rfl, hx0, hb, hlim, hzl⟩ := hc
        simp only [Option.some.injEq, Prod.mk.injEq] at hv
        obtain ⟨rfl, rfl, rfl⟩ := hv
        have hzs : z.cells.size = wd := by have := hr.length; simp only [Array.length_toList] at this; omega
        have hrun := run_make (P := P) w t e i z ht hi hz' q1 q2 x x hx0 (Int.le_refl _) (by rw [Int.mul_comm]; unfold lim at hb; omega) (by unfold lim at hlim; omega)
        have hcells : madeCells z.cells (x.toNat * i.size) = (Array.range (x.toNat * wd)).map (z.cells[· % z.cells.size]!) := by rw [hisz]; rfl
        rw [hcells] at hrun
        have hrows : (List.replicate x.toNat zs).length = x.toNat := by simp
        refine OpOK.new hs (.cells ((Array.range (x.toNat * wd)).map (z.cells[· % z.cells.size]!)) e) _ (newLoc (List.replicate x.toNat zs) w.heap.size x.toNat wd) (newLoc_blk _ _ _ _) _ (.slice (some ⟨w.heap.size, 0, none⟩) x.toNat x.toNat) ?_ (fun g' h1 h2 hk => ?_) (fun g' h1 => ?_)
        · simp only [execOp, ho, e1, e2, Sem.run_bind, hrun, Result.andThen_ok, Sem.run_pure]
          rfl
        · exact rowsRep_new h1 (by rw [hrows]; unfold lim at *; omega) (fun r hr' => by rw [List.eq_of_mem_replicate hr']; exact hzl) (by rw [hrows]; exact Nat.le_refl _) (PRepLL.mono hk.fz _ _ (PRepLL.replicate hr _)) (RowsAt.zeros z.cells wd _ hzs) (by simp)
        · exact osRep_new (by omega) h1 (by simp [Heap.get]) hrows (Nat.le_refl _) (fun h => by have := congrArg List.length h; simpa using this)
      · cases hv
    · cases hv
  · cases hl

theorem s_callf (x : Operand) (args : Array Operand) (argTypes : Array TypeId) : Sound P (.call { callee := .value x, args := args, argTypes := argTypes }) := by
  intro oo ho g w H k env a op v H' k' hs he hl hv
  cases x with
  | func f =>
    simp only [lowOp] at hl
    split at hl
    · split at hl
      · simp only [Option.bind_eq_bind, Option.bind_eq_some_iff, Option.pure_def, Option.some.injEq] at hl
        obtain ⟨l, _, rfl⟩ := hl
        simp [aop] at hv
      · cases hl
    · cases hl
  | _ =>
    simp only [lowOp, Option.bind_eq_bind, Option.bind_eq_some_iff, Option.pure_def, Option.some.injEq] at hl
    obtain ⟨x, _, l, _, rfl⟩ := hl
    simp [aop] at hv

theorem s_none {o : Op} (h : lowOp P o = none) : Sound P o := by
  intro oo ho g w H k env a op v H' k' hs he hl hv
  rw [h] at hl
  cases hl

/-- EVERY OPERATION THAT IS BROUGHT INTO THE FORM DOES WHAT 'aop' SAYS. -/
theorem sound (o : Op) : Sound P o := by
  cases o with
  | move x => exact s_mv x
  | assign x => exact s_assign x
  | pick c a b => exact s_pick c a b
  | alloc t => exact s_alloc t
  | box t v => exact s_box t v
  | build t ps => exact s_build t ps
  | buildSlice t n ps => exact s_buildSlice t n ps
  | insert t m k v => exact s_insert t m k v
  | load t a => exact s_load t a
  | store t a v => exact s_store t a v
  | nilCheck x => exact s_nilCheck x
  | binOp op t x y u => exact s_bin op t x y u
  | unOp op t x => cases op <;> first | exact s_not t x | exact s_neg t x | exact s_none rfl
  | convert s d x => exact s_conv s d x
  | makeFunc fn a b => exact s_makeFunc fn a b
  | makeMap t r => cases r <;> first | exact s_makeMap t | exact s_none rfl
  | makeSlice t l c => exact s_makeSlice t l c
  | slice t x lo hi mx => cases mx <;> first | exact s_slice t x lo hi | exact s_none rfl
  | fieldAddr s x i => exact s_faddr s x i
  | field s x i => exact s_fld s x i
  | indexAddr t x i => exact s_iaddr t x i
  | index t x i => exact s_index t x i
  | lookup t m k ok => exact s_lookup t m k ok
  | mapUpdate t m k v => exact s_mapUpdate t m k v
  | extract x i => exact s_extract x i
  | call c =>
    obtain ⟨callee, args, argTypes⟩ := c
    cases callee with
    | value x => exact s_callf x args argTypes
    | invoke r m => exact s_none rfl
    | builtin b => cases b <;> first | exact s_len args argTypes | exact s_append args argTypes | exact s_min args argTypes | exact s_max args argTypes | exact s_none rfl
  | _ => exact s_none rfl
end Go.Abs
