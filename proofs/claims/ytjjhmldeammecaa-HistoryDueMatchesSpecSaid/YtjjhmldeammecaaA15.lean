/-
  Abs, part 15: what may be forgotten, what is shut for ever; functions; pure calls.
-/
import Derived.Test.YtjjhmldeammecaaA14
namespace Go.Abs
open Go

variable {P : Program}

/-! ### Names below a bound -/
mutual
def belowA (k : Nat) : AV → Prop
  | .bp n _ => n < k
  | .ep n _ _ _ => n < k
  | .os n _ _ => n < k
  | .mp n => n < k
  | .agg cs => belowL k cs
  | .tup cs => belowL k cs
  | .fn _ a b => belowL k a ∧ belowL k b
  | .ifc _ x => belowA k x
  | .p _ => True
  | .junk => True
def belowL (k : Nat) : List AV → Prop
  | [] => True
  | x :: xs => belowA k x ∧ belowL k xs
end
def belowO (k : Nat) : AObj → Prop
  | .cells cs => belowL k cs
  | _ => True

mutual
theorem ARep.sub {g : G} {H H' : Heap} {k k' : Nat} (hH : ∀ n o, H'.get n = some o → H.get n = some o) : ∀ (x : AV) (v : Value), ARep g H k x v → belowA k' x → ARep g H' k' x v
  | .p x, v, h, _ => by simp only [ARep] at *; exact h
  | .junk, _, _, _ => by simp only [ARep]
  | .agg cs, v, h, hb => by
    simp only [ARep, belowA] at *
    obtain ⟨vs, e, hl⟩ := h
    exact ⟨vs, e, ARepL.sub hH cs _ hl hb⟩
  | .tup cs, v, h, hb => by
    simp only [ARep, belowA] at *
    obtain ⟨vs, e, hl⟩ := h
    exact ⟨vs, e, ARepL.sub hH cs _ hl hb⟩
  | .bp n off, v, h, hb => by
    simp only [ARep, belowA] at *
    exact ⟨hb, h.2.1, fun cs hcs => h.2.2 cs (hH _ _ hcs)⟩
  | .ep n i j len, v, h, hb => by
    simp only [ARep, belowA] at *
    exact ⟨hb, h.2.1, fun cs hcs => h.2.2 cs (hH _ _ hcs)⟩
  | .os n off len, v, h, hb => by
    simp only [ARep, belowA] at *
    exact ⟨hb, h.2.1, fun cs hcs => h.2.2 cs (hH _ _ hcs)⟩
  | .mp n, v, h, hb => by
    simp only [ARep, belowA] at *
    exact ⟨hb, h.2.1, fun cs hcs => h.2.2 cs (hH _ _ hcs)⟩
  | .fn f a b, v, h, hb => by
    simp only [ARep, belowA] at *
    obtain ⟨x, y, e, h1, h2⟩ := h
    exact ⟨x, y, e, ARepL.sub hH _ _ h1 hb.1, ARepL.sub hH _ _ h2 hb.2⟩
  | .ifc t x, v, h, hb => by
    simp only [ARep, belowA] at *
    obtain ⟨y, e, h1⟩ := h
    exact ⟨y, e, ARep.sub hH _ _ h1 hb⟩
theorem ARepL.sub {g : G} {H H' : Heap} {k k' : Nat} (hH : ∀ n o, H'.get n = some o → H.get n = some o) : ∀ (x : List AV) (v : List Value), ARepL g H k x v → belowL k' x → ARepL g H' k' x v
  | [], _, h, _ => by simp only [ARepL] at *; exact h
  | x :: xs, v, h, hb => by
    simp only [ARepL, belowL] at *
    obtain ⟨a, r, e, h1, h2⟩ := h
    exact ⟨a, r, e, ARep.sub hH x a h1 hb.1, ARepL.sub hH xs r h2 hb.2⟩
end

theorem SimH.sub {g : G} {w : World} {H H' : Heap} {k k' : Nat} (hs : SimH g w H k) (hH : ∀ n o, H'.get n = some o → H.get n = some o) (hb : ∀ n o, H'.get n = some o → n < k' ∧ belowO k' o) : SimH g w H' k' where
  obj := fun n o h => by
    obtain ⟨h1, h2, h3⟩ := hs.obj n o (hH n o h)
    refine ⟨(hb n o h).1, ?_, h3⟩
    have := (hb n o h).2
    cases o with
    | cells cs =>
      simp only [ORep, belowO] at *
      obtain ⟨b, vs, t, a1, a2, a3⟩ := h2
      exact ⟨b, vs, t, a1, a2, ARepL.sub hH _ _ a3 this⟩
    | slice rows => simpa only [ORep] using h2
    | map es => simpa only [ORep] using h2
  inj := fun n m b h1 h2 => hs.inj n m b (fun h => by
      cases h' : H'.get n with
      | none => exact h1 h'
      | some o => rw [hH n o h'] at h; cases h) (fun h => by
      cases h' : H'.get m with
      | none => exact h2 h'
      | some o => rw [hH m o h'] at h; cases h)
  fz := hs.fz

theorem Evo.sub {g0 g : G} {w0 w : World} {H0 H H' : Heap} {k0 k k' : Nat} (e : Evo g0 w0 H0 k0 g w H k) (hH : ∀ n o, H'.get n = some o → H.get n = some o) (hk : k0 ≤ k') : Evo g0 w0 H0 k0 g w H' k' where
  kle := hk
  os := e.os
  tape := e.tape
  output := e.output
  size := e.size
  fz := e.fz
  fzNew := e.fzNew
  frame := e.frame
  names := e.names
  dom := fun n hn h => by
    cases h' : H'.get n with
    | none => rfl
    | some o => have := e.dom n hn h; rw [hH n o h'] at this; cases this
  compat := fun n o o' hn h h' => e.compat n o o' hn h (hH n o' h')
  blks := fun n b h h' => e.blks n b (fun h2 => by
    cases h3 : H'.get n with
    | none => exact h h3
    | some o => rw [hH n o h3] at h2; cases h2) h'

def envSub (k : Nat) (env : Env) : Env → Prop
  | [] => True
  | (t, x) :: r => env.get t = x ∧ belowA k x ∧ envSub k env r
def heapSub (k : Nat) (H : Heap) : Heap → Prop
  | [] => True
  | (n, o) :: r => H.get n = some o ∧ n < k ∧ belowO k o ∧ heapSub k H r

theorem heapSub_get {k : Nat} {H : Heap} : ∀ {H' : Heap}, heapSub k H H' → ∀ n o, H'.get n = some o → H.get n = some o ∧ n < k ∧ belowO k o
  | [], _, n, o, h => by simp [Heap.get] at h
  | (m, x) :: r, hs, n, o, h => by
    simp only [heapSub] at hs
    simp only [Heap.get] at h
    split at h
    · rename_i e; subst e; cases h; exact ⟨hs.1, hs.2.1, hs.2.2.1⟩
    · exact heapSub_get hs.2.2.2 n o h
theorem envSub_get {k : Nat} {env : Env} : ∀ {E : Env}, envSub k env E → ∀ t, E.get t = .junk ∨ (env.get t = E.get t ∧ belowA k (E.get t))
  | [], _, t => .inl rfl
  | (m, x) :: r, hs, t => by
    simp only [envSub] at hs
    simp only [Env.get]
    split
    · rename_i e; subst e; exact .inr ⟨hs.1, hs.2.1⟩
    · exact envSub_get hs.2.2 t

/-- To forget. -/
theorem Upd.sub {k0 : Nat} {s : St} {E : Env} {H : Heap} {k : Nat} (hk : k0 ≤ k) (he : envSub k s.env E) (hh : heapSub k s.H H) : Upd k0 s ⟨E, H, k⟩ := by
  intro g w tm hs
  have hH : ∀ n o, H.get n = some o → s.H.get n = some o := fun n o h => (heapSub_get hh n o h).1
  refine ⟨g, ⟨fun t => ?_, hs.h.sub hH fun n o h => (heapSub_get hh n o h).2⟩, fun g0 w0 H0 e => e.sub hH hk⟩
  rcases envSub_get he t with h | ⟨h1, h2⟩
  · show ARep g H k (E.get t) _
    rw [h]; simp [ARep]
  · have := hs.env t
    rw [h1] at this
    exact ARep.sub hH _ _ this h2

/-! ### Slices that are shut for ever -/
mutual
def AV.frz (q : Nat → Bool) (H : Heap) : AV → AV
  | .os n off len => match q n, H.get n with
    | true, some (.slice rows) => if off + len = rows.length then .p (.sl (rows.drop off)) else .os n off len
    | _, _ => .os n off len
  | .agg cs => AV.ofCells (frzL q H cs)
  | .tup cs => .tup (frzL q H cs)
  | .p x => .p x
  | .bp n o => match q n, H.get n with
    | true, some (.cells cs) => match allP cs with
      | some ps => .p (.ptr (ps.drop o))
      | none => .bp n o
    | _, _ => .bp n o
  | .ep a b c d => .ep a b c d
  | .mp n => match q n, H.get n with
    | true, some (.map es) => .p (.mp es)
    | _, _ => .mp n
  | .fn f a b => .fn f (frzL q H a) (frzL q H b)
  | .ifc t x => .ifc t (AV.frz q H x)
  | .junk => .junk
def frzL (q : Nat → Bool) (H : Heap) : List AV → List AV
  | [] => []
  | x :: xs => AV.frz q H x :: frzL q H xs
end
def AObj.frz (q : Nat → Bool) (H : Heap) : AObj → AObj
  | .cells cs => .cells (frzL q H cs)
  | .slice rows => .slice rows
  | .map es => .map es
def isShut (q : Nat → Bool) : Nat → AObj → Bool
  | n, .slice _ => q n
  | n, .map _ => q n
  | n, .cells cs => q n && (allP cs).isSome
/-- 'H0': the blocks as they are; over its list. -/
def Heap.frz (q : Nat → Bool) (H0 : Heap) : Heap → Heap
  | [] => []
  | (n, o) :: r => if isShut q n o then Heap.del (Heap.frz q H0 r) n else (n, o.frz q H0) :: Heap.frz q H0 r
def Env.frz (q : Nat → Bool) (H0 : Heap) : Env → Env
  | [] => []
  | (t, x) :: r => (t, x.frz q H0) :: Env.frz q H0 r
def St.frz (q : Nat → Bool) (s : St) : St := ⟨s.env.frz q s.H, s.H.frz q s.H, s.k⟩

theorem frz_get (q : Nat → Bool) (H0 : Heap) : ∀ (H : Heap) (n : Nat), (Heap.frz q H0 H).get n = match H.get n with | some o => if isShut q n o then none else some (o.frz q H0) | none => none
  | [], n => by simp [Heap.frz, Heap.get]
  | (m, o) :: r, n => by
    simp only [Heap.frz]
    split
    · rename_i hsh
      rw [Heap.get_del]
      by_cases e : m = n
      · subst e; simp [Heap.get, hsh]
      · simp only [if_neg e, Heap.get, frz_get q H0 r n]
    · rename_i hsh
      by_cases e : m = n
      · subst e; simp [Heap.get, hsh]
      · simp only [Heap.get, if_neg e, frz_get q H0 r n]

open Classical in
noncomputable def shutG (q : Nat → Bool) (g : G) (w : World) (H : Heap) : G :=
  { ρ := g.ρ, fz := fun b => if ∃ n o, H.get n = some o ∧ isShut q n o = true ∧ (g.ρ n).blk = some b then w.heap[b]? else g.fz b }

theorem shut_fz {q : Nat → Bool} {g : G} {w : World} {H : Heap} {k : Nat} (hs : SimH g w H k) : ∀ b o, g.fz b = some o → (shutG q g w H).fz b = some o := by
  intro b o h
  simp only [shutG]
  rw [if_neg]
  · exact h
  · rintro ⟨n, o, hn, _, hb⟩
    rw [((hs.obj n _ hn).2.2 b hb).1] at h
    cases h

mutual
theorem frz_rep {q : Nat → Bool} {g : G} {w : World} {H : Heap} {k : Nat} (hs : SimH g w H k) : ∀ (x : AV) (v : Value), ARep g H k x v → ARep (shutG q g w H) (H.frz q H) k (x.frz q H) v
  | .p x, v, h => by simp only [AV.frz, ARep] at *; exact PRep.mono (shut_fz hs) _ _ h
  | .junk, _, _ => by simp only [AV.frz, ARep]
  | .agg cs, v, h => by
    simp only [AV.frz]
    simp only [ARep] at h
    obtain ⟨vs, rfl, hl⟩ := h
    exact ofCells_rep (frzL_rep hs cs _ hl)
  | .tup cs, v, h => by
    simp only [AV.frz, ARep] at *
    obtain ⟨vs, e, hl⟩ := h
    exact ⟨vs, e, frzL_rep hs cs _ hl⟩
  | .bp n off, v, h => by
    simp only [ARep] at h
    have keep : (∀ cs, H.get n = some (.cells cs) → isShut q n (.cells cs) = false) → ARep (shutG q g w H) (H.frz q H) k (.bp n off) v := by
      intro hne
      simp only [ARep]
      refine ⟨h.1, h.2.1, fun cs hcs => ?_⟩
      rw [frz_get] at hcs
      cases hn : H.get n with
      | none => rw [hn] at hcs; cases hcs
      | some o =>
        rw [hn] at hcs
        simp only at hcs
        split at hcs
        · cases hcs
        · cases o <;> simp only [AObj.frz, Option.some.injEq, reduceCtorEq] at hcs
          exact h.2.2 _ hn
    simp only [AV.frz]
    split
    · rename_i cs hq hn
      split
      · rename_i ps hps
        obtain ⟨b, hb, rfl⟩ := h.2.2 cs hn
        obtain ⟨_, ho', hblk⟩ := hs.obj n _ hn
        simp only [ORep] at ho'
        obtain ⟨b', vs, t, hb', hw', hr⟩ := ho'
        rw [hb] at hb'; cases hb'
        have hf : (shutG q g w H).fz b = some (.cells vs t (0, 0)) := by
          simp only [shutG]
          rw [if_pos ⟨n, _, hn, by simp [isShut, hq, hps], hb⟩, hw']
        rw [allP_some hps] at hr
        simp only [ARep, PRep]
        exact ⟨b, off, vs, t, (0, 0), vs.toList.drop off, rfl, hf, (PRepL.mono (shut_fz hs) _ _ (ARepL.ofP.1 hr)).drop off, fun j x hj => by simpa using hj⟩
      · rename_i hps
        exact keep fun cs' hn' => by rw [hn] at hn'; cases hn'; simp [isShut, hps]
    · rename_i hno
      refine keep fun cs hn => ?_
      cases hq : q n with
      | false => simp [isShut, hq]
      | true => exact (hno cs hq hn).elim
  | .ep n i j len, v, h => by
    simp only [AV.frz, ARep] at *
    refine ⟨h.1, h.2.1, fun cs hcs => ?_⟩
    rw [frz_get] at hcs
    cases hn : H.get n with
    | none => rw [hn] at hcs; cases hcs
    | some o =>
      rw [hn] at hcs
      simp only at hcs
      split at hcs
      · cases hcs
      · cases o <;> simp only [AObj.frz, Option.some.injEq, reduceCtorEq, AObj.slice.injEq] at hcs
        subst hcs
        exact h.2.2 _ hn
  | .os n off len, v, h => by
    simp only [ARep] at h
    have keep : (∀ rows, q n = true → H.get n = some (.slice rows) → off + len ≠ rows.length) → ARep (shutG q g w H) (H.frz q H) k (.os n off len) v := by
      intro hne
      simp only [ARep]
      refine ⟨h.1, h.2.1, fun rows hcs => ?_⟩
      rw [frz_get] at hcs
      cases hn : H.get n with
      | none => rw [hn] at hcs; cases hcs
      | some o =>
        rw [hn] at hcs
        simp only at hcs
        split at hcs
        · cases hcs
        · cases o <;> simp only [AObj.frz, Option.some.injEq, reduceCtorEq, AObj.slice.injEq] at hcs
          subst hcs
          exact h.2.2 _ hn
    simp only [AV.frz]
    split
    · rename_i rows hq hn
      split
      · rename_i hup
        simp only [ARep, PRep]
        obtain ⟨hle, hos⟩ := h.2.2 rows hn
        obtain ⟨ad, cap, rfl, hlc, hcap⟩ := hos hup
        obtain ⟨_, ho', hblk⟩ := hs.obj n _ hn
        simp only [ORep] at ho'
        obtain ⟨o1, o2, o3, o4, o6, o5⟩ := ho'
        have hlen : (rows.drop off).length = len := by simp; omega
        refine ⟨by rw [hlen]; unfold lim at o1; unfold top; omega, ?_⟩
        rcases hcap with rfl | ⟨b, hb, hdrop, hocap, rfl⟩
        · -- empty, without room: either nil or an address; both read as the empty list
          have hl0 : len = 0 := by omega
          have hz : rows.drop off = [] := List.eq_nil_of_length_eq_zero (by omega)
          exact .inl ⟨hz, ad, by rw [hl0]⟩
        · obtain ⟨cs, t, vals, hw', hcap', hvals, hat, hsz⟩ := o5 b hb
          have hf : (shutG q g w H).fz b = some (.cells cs t (0, 0)) := by
            simp only [shutG]
            rw [if_pos ⟨n, _, hn, by simp [isShut, hq], hb⟩, hw']
          have hv2 := hvals.drop (off - (g.ρ n).drop)
          rw [List.drop_drop, show (g.ρ n).drop + (off - (g.ρ n).drop) = off by omega] at hv2
          refine .inr ⟨b, _, cap, (g.ρ n).w, cs, t, (0, 0), _, by rw [hlen], by omega, hf, PRepLL.mono (shut_fz hs) _ _ hv2, hat.drop _⟩
      · rename_i hup
        exact keep fun rows' _ h' => by rw [hn] at h'; cases h'; exact hup
    · rename_i hno
      refine keep fun rows hq hn => ?_
      exact (hno rows hq hn).elim
  | .mp n, v, h => by
    simp only [ARep] at h
    have keep : (∀ es, H.get n = some (.map es) → q n = false) → ARep (shutG q g w H) (H.frz q H) k (.mp n) v := by
      intro hne
      simp only [ARep]
      refine ⟨h.1, h.2.1, fun cs hcs => ?_⟩
      rw [frz_get] at hcs
      cases hn : H.get n with
      | none => rw [hn] at hcs; cases hcs
      | some o =>
        rw [hn] at hcs
        simp only at hcs
        split at hcs
        · cases hcs
        · cases o <;> simp only [AObj.frz, Option.some.injEq, reduceCtorEq, AObj.map.injEq] at hcs
          subst hcs
          exact h.2.2 _ hn
    simp only [AV.frz]
    split
    · rename_i es hq hn
      obtain ⟨b, hb, rfl⟩ := h.2.2 es hn
      obtain ⟨_, ho', hblk⟩ := hs.obj n _ hn
      simp only [ORep] at ho'
      obtain ⟨b', ms, clock, hb', hw', hr, hd⟩ := ho'
      rw [hb] at hb'; cases hb'
      have hf : (shutG q g w H).fz b = some (.map ms clock) := by
        simp only [shutG]
        rw [if_pos ⟨n, _, hn, by simp [isShut, hq], hb⟩, hw']
      simp only [ARep, PRep]
      exact ⟨b, ms, clock, rfl, hf, PRepM.mono (shut_fz hs) _ _ hr.pairs⟩
    · rename_i hno
      refine keep fun es hn => ?_
      cases hq : q n with
      | false => rfl
      | true => exact (hno es hq hn).elim
  | .fn f a b, v, h => by
    simp only [AV.frz, ARep] at *
    obtain ⟨x, y, e, h1, h2⟩ := h
    exact ⟨x, y, e, frzL_rep hs _ _ h1, frzL_rep hs _ _ h2⟩
  | .ifc t x, v, h => by
    simp only [AV.frz, ARep] at *
    obtain ⟨y, e, h1⟩ := h
    exact ⟨y, e, frz_rep hs _ _ h1⟩
theorem frzL_rep {q : Nat → Bool} {g : G} {w : World} {H : Heap} {k : Nat} (hs : SimH g w H k) : ∀ (x : List AV) (v : List Value), ARepL g H k x v → ARepL (shutG q g w H) (H.frz q H) k (frzL q H x) v
  | [], _, h => by simp only [frzL, ARepL] at *; exact h
  | x :: xs, v, h => by
    simp only [frzL, ARepL] at *
    obtain ⟨a, r, e, h1, h2⟩ := h
    exact ⟨a, r, e, frz_rep hs x a h1, frzL_rep hs xs r h2⟩
end

theorem SimH.frz {q : Nat → Bool} {g : G} {w : World} {H : Heap} {k : Nat} (hs : SimH g w H k) : SimH (shutG q g w H) w (H.frz q H) k where
  obj := fun n o h => by
    rw [frz_get] at h
    cases hn : H.get n with
    | none => rw [hn] at h; cases h
    | some o0 =>
      rw [hn] at h
      simp only at h
      split at h
      · cases h
      · rename_i hsh
        cases h
        obtain ⟨h1, h2, h3⟩ := hs.obj n o0 hn
        refine ⟨h1, ?_, fun b hb => ⟨?_, (h3 b hb).2⟩⟩
        · cases o0 with
          | cells cs =>
            simp only [AObj.frz, ORep] at *
            obtain ⟨b, vs, t, a1, a2, a3⟩ := h2
            exact ⟨b, vs, t, a1, a2, frzL_rep hs _ _ a3⟩
          | slice rows =>
            simp only [AObj.frz, ORep] at *
            obtain ⟨o1, o2, o3, o4, o6, o5⟩ := h2
            refine ⟨o1, o2, o3, o4, o6, fun b hb => ?_⟩
            obtain ⟨cs, t, vals, a1, a2, a3, a4⟩ := o5 b hb
            exact ⟨cs, t, vals, a1, a2, PRepLL.mono (shut_fz hs) _ _ a3, a4⟩
          | map es =>
            simp only [AObj.frz, ORep] at *
            obtain ⟨b, ms, c, a1, a2, a3, a4⟩ := h2
            exact ⟨b, ms, c, a1, a2, MRep.mono (shut_fz hs) (Nat.le_refl _) _ _ a3, a4⟩
        · simp only [shutG]
          rw [if_neg]
          · exact (h3 b hb).1
          · rintro ⟨m, o1, hm, hq, hbm⟩
            have := hs.inj n m b (by rw [hn]; simp) (by rw [hm]; simp) hb hbm
            subst this
            rw [hn] at hm; cases hm
            exact hsh hq
  inj := fun n m b h1 h2 h3 h4 => by
    refine hs.inj n m b (fun h => h1 ?_) (fun h => h2 ?_) h3 h4 <;> rw [frz_get, h]
  fz := fun b o h => by
    simp only [shutG] at h
    split at h
    · exact h
    · exact hs.fz b o h

theorem Evo.frz {q : Nat → Bool} {g0 g : G} {w0 w : World} {H0 H : Heap} {k0 k : Nat} (hs : SimH g w H k) (e : Evo g0 w0 H0 k0 g w H k) : Evo g0 w0 H0 k0 (shutG q g w H) w (H.frz q H) k where
  kle := e.kle
  os := e.os
  tape := e.tape
  output := e.output
  size := e.size
  fz := fun b o h => shut_fz hs _ _ (e.fz b o h)
  fzNew := fun b o h => by
    simp only [shutG] at h
    split at h
    · rename_i hc
      obtain ⟨n, o1, hn, hq, hb⟩ := hc
      exact .inr (e.blks n b (by rw [hn]; simp) hb)
    · exact e.fzNew b o h
  frame := e.frame
  names := e.names
  dom := fun n hn h => by rw [frz_get, e.dom n hn h]
  compat := fun n o o' hn h h' => by
    rw [frz_get] at h'
    cases hn' : H.get n with
    | none => rw [hn'] at h'; cases h'
    | some o2 =>
      rw [hn'] at h'
      simp only at h'
      split at h'
      · cases h'
      · cases h'
        have := e.compat n o o2 hn h hn'
        show Compat (g0.ρ n) (g.ρ n) o (o2.frz q H)
        cases o <;> cases o2 <;> simp only [Compat, AObj.frz] at * <;> exact this
  blks := fun n b h h' => e.blks n b (fun h2 => h (by rw [frz_get, h2])) h'

/-- To shut slices. -/
theorem Upd.frz (q : Nat → Bool) (k0 : Nat) (s : St) : Upd k0 s (s.frz q) := by
  intro g w tm hs
  refine ⟨shutG q g w s.H, ⟨fun t => ?_, hs.h.frz⟩, fun g0 w0 H0 e => e.frz hs.h⟩
  have h1 := frz_rep (q := q) hs.h _ _ (hs.env t)
  have h2 : ∀ (E : Env), (Env.frz q s.H E).get t = .junk ∨ (Env.frz q s.H E).get t = (E.get t).frz q s.H := by
    intro E
    induction E with
    | nil => exact .inl rfl
    | cons a E ih =>
      obtain ⟨m, x⟩ := a
      simp only [Env.frz, Env.get]
      split
      · exact .inr rfl
      · exact ih
  show ARep _ _ _ ((Env.frz q s.H s.env).get t) _
  rcases h2 s.env with h | h
  · rw [h]; simp [ARep]
  · rw [h]; exact h1

/-! ### Functions -/
inductive RRes where
  | t (n : Nat)
  | c (n sz : Nat) (agg : Bool)

structure RFun where
  nt : Nat
  np : Nat
  res : List RRes
  code : RCode

def lowRes (P : Program) : ResultVar → Option RRes
  | .tmp n => some (.t n)
  | .cell n ty => do pure (.c n (← sizeT P ty) (← isAggT P ty))

def lowF (P : Program) (f : FuncId) : Option RFun := do
  let fn ← P.funcs[f]?
  let c ← fn.body
  if fn.params.size + fn.nfree > fn.ntmps then none else
  pure ⟨fn.ntmps, fn.params.size + fn.nfree, ← fn.results.toList.mapM (lowRes P), ← lower P fn.ntmps c⟩

def res1 (s : St) : RRes → Option AV
  | .t n => some (s.env.get n)
  | .c n sz agg => match s.env.get n with
    | .bp m off => match s.H.get m with
      | some (.cells cs) => cut sz agg (cs.drop off)
      | _ => none
    | _ => none
def resv (rs : List RRes) (s : St) : Option AV := match rs.mapM (res1 s) with
  | some [x] => some x
  | some xs => some (.tup xs)
  | none => none

/-- A step of the ghost alone, where a value is handed back. -/
def RUpd (k0 : Nat) (r : AV) (H : Heap) (k : Nat) (r' : AV) (H' : Heap) (k' : Nat) : Prop :=
  ∀ (g : G) (w : World) (v : Value), SimH g w H k → ARep g H k r v → ∃ g', SimH g' w H' k' ∧ ARep g' H' k' r' v ∧ ∀ (g0 : G) (w0 : World) (H0 : Heap), Evo g0 w0 H0 k0 g w H k → Evo g0 w0 H0 k0 g' w H' k'

theorem RUpd.refl (k0 : Nat) (r : AV) (H : Heap) (k : Nat) : RUpd k0 r H k r H k := fun g w v h1 h2 => ⟨g, h1, h2, fun _ _ _ e => e⟩
theorem RUpd.trans {k0 : Nat} {r r' r'' : AV} {H H' H'' : Heap} {k k' k'' : Nat} (h : RUpd k0 r H k r' H' k') (h' : RUpd k0 r' H' k' r'' H'' k'') : RUpd k0 r H k r'' H'' k'' := fun g w v h1 h2 => by
  obtain ⟨g1, a1, a2, a3⟩ := h g w v h1 h2
  obtain ⟨g2, b1, b2, b3⟩ := h' g1 w v a1 a2
  exact ⟨g2, b1, b2, fun _ _ _ e => b3 _ _ _ (a3 _ _ _ e)⟩
theorem RUpd.frz (q : Nat → Bool) (k0 : Nat) (r : AV) (H : Heap) (k : Nat) : RUpd k0 r H k (r.frz q H) (H.frz q H) k := fun g w v h1 h2 =>
  ⟨shutG q g w H, h1.frz, frz_rep h1 _ _ h2, fun _ _ _ e => e.frz h1⟩
theorem RUpd.sub {k0 : Nat} {r : AV} {H H' : Heap} {k k' : Nat} (hk : k0 ≤ k') (hr : belowA k' r) (hh : heapSub k' H H') : RUpd k0 r H k r H' k' := fun g w v h1 h2 => by
  have hH : ∀ n o, H'.get n = some o → H.get n = some o := fun n o h => (heapSub_get hh n o h).1
  exact ⟨g, h1.sub hH fun n o h => (heapSub_get hh n o h).2, ARep.sub hH _ _ h2 hr, fun _ _ _ e => e.sub hH hk⟩
/-- What a value is known to be may be weakened. -/
theorem RUpd.weak {k0 : Nat} {r r' : AV} {H : Heap} {k : Nat} (hr : ∀ g v, ARep g H k r v → ARep g H k r' v) : RUpd k0 r H k r' H k := fun g w v h1 h2 => ⟨g, h1, hr g v h2, fun _ _ _ e => e⟩

def Fin (rs : List RRes) (s : St) (k0 : Nat) (K : AV → Heap → Nat → Prop) : Prop :=
  match resv rs s with
  | some r => ∃ r' H' k', RUpd k0 r s.H s.k r' H' k' ∧ K r' H' k'
  | none => False

def argEnv : Nat → List AV → Env
  | _, [] => []
  | i, x :: xs => (i, x) :: argEnv (i + 1) xs

theorem argEnv_get {g : G} {H : Heap} {k : Nat} : ∀ (avs : List AV) (vs : List Value) (i : Nat), ARepL g H k avs vs → ∀ t, (argEnv i avs).get t = .junk ∨ (i ≤ t ∧ ∃ v, vs[t - i]? = some v ∧ ARep g H k ((argEnv i avs).get t) v)
  | [], _, i, _, t => .inl rfl
  | x :: xs, vs, i, h, t => by
    simp only [ARepL] at h
    obtain ⟨v, r, rfl, h1, h2⟩ := h
    simp only [argEnv, Env.get]
    split
    · rename_i e; subst e
      exact .inr ⟨Nat.le_refl _, v, by simp, h1⟩
    · rename_i e
      rcases argEnv_get xs r (i + 1) h2 t with h | ⟨h3, u, h4, h5⟩
      · exact .inl h
      · exact .inr ⟨by omega, u, by rw [show t - i = (t - (i + 1)) + 1 by omega]; simpa using h4, h5⟩

def runRes (tmps : Array Value) (r : ResultVar) : Sem Value :=
  match r with
  | .tmp t => pure (tmps.getD t undef)
  | .cell a' t => do loadVar t (← asAddr (tmps.getD a' undef))
theorem results_eq (fn : Func) (tmps : Array Value) : results fn tmps = (do
    let vs ← fn.results.mapM (runRes tmps)
    pure (if h : vs.size = 1 then vs[0] else .tuple vs)) := rfl

theorem res1_ok {g : G} {w : World} {st : St} {a : Act} (hs : Sim g w st a.tmps) {r : ResultVar} {rr : RRes} (hl : lowRes P r = some rr) {x : AV} (hx : res1 st rr = some x) :
    ∃ v, (runRes a.tmps r).run P w = .ok v w ∧ ARep g st.H st.k x v := by
  cases r with
  | tmp n =>
    simp only [lowRes, Option.some.injEq] at hl; subst hl
    simp only [res1, Option.some.injEq] at hx; subst hx
    exact ⟨_, rfl, hs.env n⟩
  | cell n ty =>
    simp only [lowRes, Option.bind_eq_bind, Option.bind_eq_some_iff, Option.pure_def, Option.some.injEq] at hl
    obtain ⟨sz, hsz, agg, hagg, rfl⟩ := hl
    simp only [res1] at hx
    split at hx
    · rename_i m off hm
      split at hx
      · rename_i cs hcs
        have he := hs.env n
        rw [hm] at he
        simp only [ARep] at he
        obtain ⟨b, hb, hv⟩ := he.2.2 cs hcs
        obtain ⟨_, ho', _⟩ := hs.h.obj m _ hcs
        simp only [ORep] at ho'
        obtain ⟨b', vs, t', hb', hw, hr⟩ := ho'
        rw [hb] at hb'; cases hb'
        obtain ⟨z, h2, h3⟩ := load_ok (P := P) (off := off) (vals := vs.toList.drop off) hw (fun j x hj => by simpa using hj) (hr.drop off) hsz hagg hx
        exact ⟨z, by simp [runRes, hv, asAddr, h2], h3⟩
      · cases hx
    · cases hx

theorem results_ok {g : G} {w : World} {st : St} {a : Act} (hs : Sim g w st a.tmps) : ∀ {rs : List ResultVar} {rrs : List RRes}, rs.mapM (lowRes P) = some rrs → ∀ {xs : List AV}, rrs.mapM (res1 st) = some xs →
    ∃ vs : List Value, (rs.mapM (runRes a.tmps)).run P w = .ok vs w ∧ ARepL g st.H st.k xs vs
  | [], rrs, h, xs, hx => by
    simp at h; subst h
    simp at hx; subst hx
    exact ⟨[], by simp, by simp [ARepL]⟩
  | r :: rs, rrs, h, xs, hx => by
    simp only [List.mapM_cons, Option.bind_eq_bind, Option.bind_eq_some_iff, Option.pure_def, Option.some.injEq] at h
    obtain ⟨rr, h1, rrs', h2, rfl⟩ := h
    simp only [List.mapM_cons, Option.bind_eq_bind, Option.bind_eq_some_iff, Option.pure_def, Option.some.injEq] at hx
    obtain ⟨x, h3, xs', h4, rfl⟩ := hx
    obtain ⟨v, q1, q2⟩ := res1_ok (P := P) hs h1 h3
    obtain ⟨vs, q3, q4⟩ := results_ok hs h2 h4
    refine ⟨v :: vs, ?_, ?_⟩
    · simp only [List.mapM_cons, Sem.run_bind, q1, Result.andThen_ok, q3, Sem.run_pure]
    · simp only [ARepL]; exact ⟨_, _, rfl, q2, q4⟩

/-- A FUNCTION. -/
theorem afun {f : FuncId} {rf : RFun} (hl : lowF P f = some rf) {avs : List AV} (hn : avs.length = rf.np) {H : Heap} {k : Nat} {K : AV → Heap → Nat → Prop}
    (h : AWr P rf.nt rf.code (fun e s => match e with | .exit _ => False | _ => Fin rf.res s k K) ⟨argEnv 0 avs, H, k⟩) : ACalls P f avs H k K := by
  intro g w args hs ha
  simp only [lowF, Option.bind_eq_bind, Option.bind_eq_some_iff] at hl
  obtain ⟨fn, hf, c, hb, hl⟩ := hl
  split at hl
  · cases hl
  · rename_i hle
    simp only [Option.bind_eq_some_iff, Option.pure_def, Option.some.injEq] at hl
    obtain ⟨rrs, hres, rc, hrc, rfl⟩ := hl
    have hal := ha.length
    simp only [Array.length_toList] at hal
    have hsz : (args ++ Array.replicate (fn.ntmps - args.size) undef).size = fn.ntmps := by simp at hn ⊢; omega
    refine calls_of_wp hf hb (wp_mono (h c hrc g w _ hsz rfl ⟨fun t => ?_, hs⟩) ?_)
    · show ARep g H k ((argEnv 0 avs).get t) _
      rcases argEnv_get avs args.toList 0 ha t with h | ⟨_, v, h1, h2⟩
      · rw [h]; simp [ARep]
      · simp only [Nat.sub_zero, Array.getElem?_toList] at h1
        have hlt : t < args.size := by
          rcases Nat.lt_or_ge t args.size with h | h
          · exact h
          · rw [Array.getElem?_eq_none h] at h1; cases h1
        rw [Array.getD_eq_getD_getElem?, Array.getElem?_append_left hlt, h1]
        exact h2
    · rintro e a' w' ⟨e', st', g', r1, r2, r3, r4, r5, r6⟩
      have fin : Fin rrs st' k K → ∃ v, (results fn a'.tmps).run P w' = .ok v w' ∧ ∃ v' r g' H' k', Ending.returned v = Ending.returned v' ∧ K r H' k' ∧ ARep g' H' k' r v' ∧ SimH g' w' H' k' ∧ Evo g w H k g' w' H' k' := by
        intro hfin
        simp only [Fin] at hfin
        split at hfin
        · rename_i r hr
          obtain ⟨r', H', k', hu, hK⟩ := hfin
          have key : ∃ v, (results fn a'.tmps).run P w' = .ok v w' ∧ ARep g' st'.H st'.k r v := by
            simp only [resv] at hr
            have hrun : ∀ (vs : List Value), (fn.results.toList.mapM (runRes a'.tmps)).run P w' = .ok vs w' →
                (results fn a'.tmps).run P w' = .ok (if h : vs.toArray.size = 1 then vs.toArray[0] else .tuple vs.toArray) w' := by
              intro vs hvs
              rw [results_eq, Array.mapM_eq_mapM_toList]
              simp only [Sem.run_bind, Sem.run_map, hvs, Result.andThen_ok, Sem.run_pure]
            split at hr
            · rename_i x hxs
              cases hr
              obtain ⟨vs, q1, q2⟩ := results_ok (P := P) r5 hres hxs
              simp only [ARepL] at q2
              obtain ⟨v, s, rfl, q3, rfl⟩ := q2
              exact ⟨v, by rw [hrun _ q1]; simp, q3⟩
            · rename_i xs hne hxs
              cases hr
              obtain ⟨vs, q1, q2⟩ := results_ok (P := P) r5 hres hxs
              have hl1 : ¬ vs.toArray.size = 1 := by
                have := q2.length
                intro h1
                simp only [List.size_toArray] at h1
                cases xs with
                | nil => simp at this; simp [this] at h1
                | cons x xs => cases xs with
                  | nil => exact hne x rfl
                  | cons y ys => simp at this; omega
              refine ⟨.tuple vs.toArray, by rw [hrun _ q1, dif_neg hl1], ?_⟩
              simp only [ARep]
              exact ⟨_, rfl, q2⟩
            · cases hr
          obtain ⟨v, q1, q2⟩ := key
          obtain ⟨g'', u1, u2, u3⟩ := hu g' w' v r5.h q2
          exact ⟨v, q1, v, r', g'', H', k', rfl, hK, u2, u1, u3 _ _ _ r6⟩
        · exact hfin.elim
      cases e' with
      | exit id => exact r2.elim
      | normal =>
        cases e <;> simp only [RExit.rel] at r1
        exact ⟨r4, fin r2⟩
      | ret =>
        cases e <;> simp only [RExit.rel] at r1
        exact ⟨r4, fin r2⟩
end Go.Abs
