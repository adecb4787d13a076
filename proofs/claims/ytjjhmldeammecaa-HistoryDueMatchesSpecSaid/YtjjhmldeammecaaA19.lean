/-
  Abs, part 19: the slice nil taken for an owned one; weakening; lists.
-/
import Derived.Test.YtjjhmldeammecaaA18
namespace Go.Abs
open Go

variable {P : Program}

theorem own_new {g : G} {w : World} {H : Heap} {k : Nat} (hs : SimH g w H k) : ∃ g', g'.fz = g.fz ∧ SimH g' w ((k, .slice []) :: H) (k + 1) ∧ Evo g w H k g' w ((k, .slice []) :: H) (k + 1) ∧ ARep g' ((k, .slice []) :: H) (k + 1) (.os k 0 0) (.slice none 0 0) := by
  have hk : H.get k = none := by
    cases h : H.get k with
    | none => rfl
    | some o => have := (hs.obj k o h).1; omega
  have h := SimH.gen (g' := { g with ρ := fun m => if m = k then ⟨none, 0, 0, 0, 0⟩ else g.ρ m }) (w' := w) hs k (.slice []) (k' := k + 1) (H' := (k, .slice []) :: H) (by omega) rfl (fun m e => by simp [e]) (fun m e => by simp [Heap.get, Ne.symm e]) (by simp [Heap.get]) (by omega)
    (fun o h => by rw [hk] at h; cases h) (fun _ => Nat.le_refl _) rfl rfl rfl (Nat.le_refl _) (fun b hb _ => rfl) (fun b hb => by simp at hb) (fun _ => by simp [ORep, lim])
  refine ⟨{ g with ρ := fun m => if m = k then ⟨none, 0, 0, 0, 0⟩ else g.ρ m }, rfl, h.1, h.2, ?_⟩
  simp only [ARep]
  refine ⟨by omega, rfl, fun rows hr => ?_⟩
  simp only [Heap.get, if_true, Option.some.injEq, AObj.slice.injEq] at hr
  subst hr
  exact ⟨by simp, fun _ => ⟨none, 0, rfl, Nat.le_refl _, .inl rfl⟩⟩

/-- A temporary that is nil may be taken for an owned slice. -/
theorem Upd.ownTmp (k0 : Nat) {s : St} (t : Nat) (h : s.env.get t = .p (.c (.slice none 0 0))) : Upd k0 s ⟨(t, .os s.k 0 0) :: s.env, (s.k, .slice []) :: s.H, s.k + 1⟩ := by
  intro g w tm hs
  obtain ⟨g', h1, h2, h3, h4⟩ := own_new hs.h
  refine ⟨g', ⟨fun u => ?_, h2⟩, fun g0 w0 H0 e => e.trans h3⟩
  show ARep g' _ _ (Env.get ((t, .os s.k 0 0) :: s.env) u) _
  simp only [Env.get]
  split
  · rename_i e
    subst e
    have := hs.env t
    rw [h] at this
    rw [rep_c this]
    exact h4
  · exact ARep.keeps h3.keeps _ _ (hs.env u)

theorem ARepL.setIdx {g : G} {H : Heap} {k : Nat} : ∀ {cs : List AV} {vs : List Value} {i : Nat} {x y : AV}, ARepL g H k cs vs → cs[i]? = some x → (∀ v, ARep g H k x v → ARep g H k y v) → ARepL g H k (cs.set i y) vs
  | [], _, i, _, _, _, h, _ => by simp at h
  | c :: cs, vs, i, x, y, hl, h, hxy => by
    simp only [ARepL] at hl
    obtain ⟨v, r, rfl, h1, h2⟩ := hl
    cases i with
    | zero =>
      simp at h; subst h
      simp only [List.set_cons_zero, ARepL]
      exact ⟨v, r, rfl, hxy v h1, h2⟩
    | succ i =>
      simp only [List.set_cons_succ, ARepL]
      exact ⟨v, r, rfl, h1, h2.setIdx (by simpa using h) hxy⟩

/-- What a cell of an owned block is known to be may be changed for another word of it. -/
theorem cell_word {g : G} {w : World} {H : Heap} {k n i : Nat} {cs : List AV} {x y : AV} (hs : SimH g w H k) (hn : H.get n = some (.cells cs)) (hi : cs[i]? = some x) (hxy : ∀ H', (∀ m o, m ≠ n → H'.get m = some o → H.get m = some o) → (∀ m cs, H'.get m = some (.cells cs) → ∃ cs', H.get m = some (.cells cs')) → (∀ m r, H'.get m = some (.slice r) → H.get m = some (.slice r)) → (∀ m r, H'.get m = some (.map r) → H.get m = some (.map r)) → ∀ v, ARep g H' k x v → ARep g H' k y v) :
    SimH g w (H.set n (.cells (cs.set i y))) k ∧ Evo g w H k g w (H.set n (.cells (cs.set i y))) k := by
  obtain ⟨h1, h2, h3⟩ := hs.obj n _ hn
  simp only [ORep] at h2
  obtain ⟨b, vs, t, q1, q2, q3⟩ := h2
  refine SimH.put hs hn q1 (by simp [Compat]) rfl rfl rfl rfl (fun _ _ => rfl) fun hk => ?_
  simp only [ORep]
  refine ⟨b, vs, t, q1, q2, ?_⟩
  have hg : ∀ m, (H.set n (.cells (cs.set i y))).get m = if n = m ∧ H.get n ≠ none then some (.cells (cs.set i y)) else H.get m := fun m => Heap.get_set H n m _
  refine (ARepL.keeps hk _ _ q3).setIdx hi (hxy _ (fun m o e h => ?_) (fun m cs' h => ?_) (fun m r h => ?_) (fun m r h => ?_))
  · rw [hg, if_neg (fun h => e h.1.symm)] at h; exact h
  · rw [hg] at h
    split at h
    · rename_i e; exact ⟨cs, e.1 ▸ hn⟩
    · exact ⟨cs', h⟩
  · rw [hg] at h
    split at h
    · cases h
    · exact h
  · rw [hg] at h
    split at h
    · cases h
    · exact h

/-- A cell that is nil may be taken for an owned slice. -/
theorem Upd.ownCell (k0 : Nat) {s : St} (n i : Nat) {cs : List AV} (hn : s.H.get n = some (.cells cs)) (hi : cs[i]? = some (.p (.c (.slice none 0 0)))) :
    Upd k0 s ⟨s.env, (s.k, .slice []) :: s.H.set n (.cells (cs.set i (.os s.k 0 0))), s.k + 1⟩ := by
  intro g w tm hs
  obtain ⟨g', h1, h2, h3, h4⟩ := own_new hs.h
  have hne : s.k ≠ n := by
    have := (hs.h.obj n _ hn).1
    omega
  have hn' : Heap.get ((s.k, .slice []) :: s.H) n = some (.cells cs) := by simp only [Heap.get, if_neg hne]; exact hn
  obtain ⟨q1, q2⟩ := cell_word (y := .os s.k 0 0) h2 hn' hi (fun H' _ _ hsl _ v hv => by
    rw [rep_c hv]
    simp only [ARep] at h4 ⊢
    refine ⟨h4.1, h4.2.1, fun rows hr => h4.2.2 rows (hsl _ _ hr)⟩)
  have e : Heap.set ((s.k, AObj.slice []) :: s.H) n (.cells (cs.set i (.os s.k 0 0))) = (s.k, .slice []) :: s.H.set n (.cells (cs.set i (.os s.k 0 0))) := by
    simp [Heap.set, hne]
  rw [e] at q1 q2
  exact ⟨g', ⟨fun u => ARep.keeps (h3.trans q2).keeps _ _ (hs.env u), q1⟩, fun g0 w0 H0 e => e.trans (h3.trans q2)⟩

/-! ### The slice nil read as the empty list -/
mutual
def nzP : PV → PV
  | .c v => match v with
    | .slice none 0 0 => .sl []
    | v => .c v
  | .agg cs => .agg (nzPs cs)
  | .sl rows => .sl (nzPss rows)
  | .ptr cells => .ptr (nzPs cells)
  | .mp es => .mp (nzPm es)
def nzPs : List PV → List PV
  | [] => []
  | x :: xs => nzP x :: nzPs xs
def nzPss : List (List PV) → List (List PV)
  | [] => []
  | x :: xs => nzPs x :: nzPss xs
def nzPm : List (PV × PV) → List (PV × PV)
  | [] => []
  | (x, y) :: xs => (nzP x, nzP y) :: nzPm xs
end
theorem nzPss_length : ∀ (l : List (List PV)), (nzPss l).length = l.length
  | [] => rfl
  | _ :: l => by simp [nzPss, nzPss_length l]
mutual
theorem nzP_rep {fz : Nat → Option Obj} : ∀ (x : PV) (v : Value), PRep fz x v → PRep fz (nzP x) v
  | .c u, v, h => by
    simp only [PRep] at h; subst h
    simp only [nzP]
    split
    · simp [PRep, top]
    · simp [PRep]
  | .agg cs, v, h => by
    simp only [PRep, nzP] at *
    obtain ⟨vs, e, hl⟩ := h
    exact ⟨vs, e, nzPs_rep cs _ hl⟩
  | .sl rows, v, h => by
    simp only [PRep, nzP] at *
    rw [nzPss_length]
    obtain ⟨h0, h⟩ := h
    refine ⟨h0, ?_⟩
    rcases h with ⟨rfl, h⟩ | ⟨b, off, cap, w, cs, t, fr, vals, e, hc, hf, hr, ha⟩
    · exact .inl ⟨by simp [nzPss], h⟩
    · exact .inr ⟨b, off, cap, w, cs, t, fr, vals, e, hc, hf, nzPss_rep rows _ hr, ha⟩
  | .ptr cells, v, h => by
    simp only [PRep, nzP] at *
    obtain ⟨b, off, cs, t, fr, vals, e, hf, hr, ha⟩ := h
    exact ⟨b, off, cs, t, fr, vals, e, hf, nzPs_rep cells _ hr, ha⟩
  | .mp es, v, h => by
    simp only [PRep, nzP] at *
    obtain ⟨b, ms, c, e, hf, hr⟩ := h
    exact ⟨b, ms, c, e, hf, nzPm_rep es _ hr⟩
theorem nzPs_rep {fz : Nat → Option Obj} : ∀ (x : List PV) (v : List Value), PRepL fz x v → PRepL fz (nzPs x) v
  | [], _, h => by simp only [PRepL, nzPs] at *; exact h
  | x :: xs, v, h => by
    simp only [PRepL, nzPs] at *
    obtain ⟨a, r, e, h1, h2⟩ := h
    exact ⟨a, r, e, nzP_rep x a h1, nzPs_rep xs r h2⟩
theorem nzPss_rep {fz : Nat → Option Obj} : ∀ (x : List (List PV)) (v : List (List Value)), PRepLL fz x v → PRepLL fz (nzPss x) v
  | [], _, h => by simp only [PRepLL, nzPss] at *; exact h
  | x :: xs, v, h => by
    simp only [PRepLL, nzPss] at *
    obtain ⟨a, r, e, h1, h2⟩ := h
    exact ⟨a, r, e, nzPs_rep x a h1, nzPss_rep xs r h2⟩
theorem nzPm_rep {fz : Nat → Option Obj} : ∀ (x : List (PV × PV)) (v : List (Value × Value)), PRepM fz x v → PRepM fz (nzPm x) v
  | [], _, h => by simp only [PRepM, nzPm] at *; exact h
  | (x, y) :: xs, v, h => by
    simp only [PRepM, nzPm] at *
    obtain ⟨a, b, r, e, h1, h2, h3⟩ := h
    exact ⟨a, b, r, e, nzP_rep x a h1, nzP_rep y b h2, nzPm_rep xs r h3⟩
end
def nzA : AV → AV
  | .p x => .p (nzP x)
  | .tup l => .tup (l.map fun | .p x => .p (nzP x) | y => y)
  | x => x
theorem nzA_rep {g : G} {H : Heap} {k : Nat} : ∀ (x : AV) (v : Value), ARep g H k x v → ARep g H k (nzA x) v := by
  intro x v h
  cases x <;> simp only [nzA] <;> try exact h
  · simp only [ARep] at *; exact nzP_rep _ _ h
  · rename_i cs
    simp only [ARep] at *
    obtain ⟨vs, e, hl⟩ := h
    refine ⟨vs, e, ?_⟩
    clear e
    generalize vs.toList = l at hl
    induction cs generalizing l with
    | nil => exact hl
    | cons c cs ih =>
      simp only [List.map_cons, ARepL] at *
      obtain ⟨a, r, e, h1, h2⟩ := hl
      refine ⟨a, r, e, ?_, ih _ h2⟩
      cases c <;> simp only [] <;> try exact h1
      simp only [ARep] at *; exact nzP_rep _ _ h1
theorem nzA_below {k : Nat} {x : AV} (h : belowA k x) : belowA k (nzA x) := by
  cases x <;> simp only [nzA] <;> try exact h
  · rename_i cs
    simp only [belowA] at *
    induction cs with
    | nil => exact h
    | cons c cs ih =>
      simp only [List.map_cons, belowL] at *
      refine ⟨?_, ih h.2⟩
      cases c <;> simp only [belowA] <;> exact h.1

/-- The end of a function that only computes, nil slices being read as empty. -/
def FinZ (n : Nat) (rs : List RRes) (s : St) (r : AV) : Prop :=
  match resv rs s with
  | some r' => nzA (frzN n s.H r') = r ∧ belowA 0 (frzN n s.H r')
  | none => False
theorem apureZ (n : Nat) {f : FuncId} {rf : RFun} (hl : lowF P f = some rf) {xs : List AV} {r : AV} (hn : xs.length = rf.np)
    (h : AWr P rf.nt rf.code (fun e s => match e with | .exit _ => False | _ => FinZ n rf.res s r) ⟨argEnv 0 xs, [], 0⟩) : APure P f xs r := by
  have key : ∀ s, FinZ n rf.res s r → Fin rf.res s 0 (fun r' H' k' => r' = r ∧ H' = [] ∧ k' = 0) := by
    intro s h
    unfold FinZ at h
    unfold Fin
    cases hr : resv rf.res s with
    | none => rw [hr] at h; exact h.elim
    | some r' =>
      rw [hr] at h
      obtain ⟨h1, h2⟩ := h
      subst h1
      refine ⟨_, [], 0, fun g w v hs hv => ?_, rfl, rfl, rfl⟩
      obtain ⟨g', q1, q2, q3⟩ := frzN_upd 0 n h2 g w v hs hv
      exact ⟨g', q1, nzA_rep _ _ q2, q3⟩
  refine afun hl hn (aw_mono h ?_)
  intro e s hs
  cases e with
  | exit id => exact hs
  | normal => exact key s hs
  | ret => exact key s hs

theorem nzL_rep {g : G} {H : Heap} {k : Nat} : ∀ (x : List AV) (v : List Value), ARepL g H k x v → ARepL g H k (x.map nzA) v
  | [], _, h => h
  | x :: xs, v, h => by
    simp only [List.map_cons, ARepL] at *
    obtain ⟨a, r, e, h1, h2⟩ := h
    exact ⟨a, r, e, nzA_rep x a h1, nzL_rep xs r h2⟩
/-- To lend, nil slices being read as empty. -/
theorem APure.nz {f : FuncId} {xs ys : List AV} {r : AV} (hc : APure P f xs r) (h : ys.map nzA = xs) : APure P f ys r := by
  subst h
  intro g w args hs ha
  exact hc g w args hs (nzL_rep _ _ ha)
/-- A temporary's word may be weakened. -/
theorem Upd.nzTmp (k0 : Nat) {s : St} (t : Nat) : Upd k0 s ⟨(t, nzA (s.env.get t)) :: s.env, s.H, s.k⟩ := by
  intro g w tm hs
  refine ⟨g, ⟨fun u => ?_, hs.h⟩, fun g0 w0 H0 e => e⟩
  show ARep g _ _ (Env.get ((t, nzA (s.env.get t)) :: s.env) u) _
  simp only [Env.get]
  split
  · rename_i e; subst e; exact nzA_rep _ _ (hs.env t)
  · exact hs.env u
theorem Upd.nzCell (k0 : Nat) {s : St} (n i : Nat) {cs : List AV} {x : AV} (hn : s.H.get n = some (.cells cs)) (hi : cs[i]? = some x) :
    Upd k0 s ⟨s.env, s.H.set n (.cells (cs.set i (nzA x))), s.k⟩ := by
  intro g w tm hs
  obtain ⟨q1, q2⟩ := cell_word (y := nzA x) hs.h hn hi (fun H' _ _ _ _ v hv => nzA_rep _ _ hv)
  exact ⟨g, ⟨fun u => ARep.keeps q2.keeps _ _ (hs.env u), q1⟩, fun g0 w0 H0 e => e.trans q2⟩

/-! ### Walks whose ends are kept out of sight -/
structure IsQ (Q Q0 : RExit → St → Prop) : Prop where
  eq : Q = Q0
theorem IsQ.go {Q Q0 : RExit → St → Prop} {e : RExit} {s : St} (h : IsQ Q Q0) (h' : Q0 e s) : Q e s := by rw [h.eq]; exact h'
theorem vOps_nil {st : St} {Q : St → Prop} : vOps P [] st Q = Q st := (rfl)
theorem vOps_none {dst : Option Nat} {op : ROp} {r : List LOp} {st : St} {Q : St → Prop} : vOps P (⟨dst, none, op⟩ :: r) st Q = vOp P op st fun v H k => vOps P r (St.put ⟨st.env, H, k⟩ dst v) Q := (rfl)
theorem vOps_on {dst : Option Nat} {d : Nat} {b : Bool} {op : ROp} {r : List LOp} {st : St} {Q : St → Prop} (h : st.env.get d = .p (.c (.bool b))) : vOps P (⟨dst, some (d, b), op⟩ :: r) st Q = vOp P op st fun v H k => vOps P r (St.put ⟨st.env, H, k⟩ dst v) Q := by
  simp [vOps, h]
theorem vOps_offt {dst : Option Nat} {d : Nat} {op : ROp} {r : List LOp} {st : St} {Q : St → Prop} (h : st.env.get d = .p (.c (.bool false))) : vOps P (⟨dst, some (d, true), op⟩ :: r) st Q = vOps P r (st.put dst (.tup [])) Q := by
  simp [vOps, h]
theorem vOps_offf {dst : Option Nat} {d : Nat} {op : ROp} {r : List LOp} {st : St} {Q : St → Prop} (h : st.env.get d = .p (.c (.bool true))) : vOps P (⟨dst, some (d, false), op⟩ :: r) st Q = vOps P r (st.put dst (.tup [])) Q := by
  simp [vOps, h]
theorem vOps_un {dst : Option Nat} {d : Nat} {b : Bool} {op : ROp} {r : List LOp} {st : St} {Q : St → Prop} (h : st.env.get d = .tup []) : vOps P (⟨dst, some (d, b), op⟩ :: r) st Q = vOps P r (st.put dst (.tup [])) Q := by
  simp [vOps, h]
theorem vD_un {dst : Option Nat} {d : Nat} {b : Bool} {op : ROp} {r : List LOp} {st : St} {Q : St → Prop} (h : st.env.get d = .tup []) : vD P (⟨dst, some (d, b), op⟩ :: r) st Q = vD P r (st.put dst (.tup [])) Q := by
  simp [vD, h]
theorem vOps_split {dst : Option Nat} {d : Nat} {b x : Bool} {op : ROp} {r : List LOp} {st : St} {Q : St → Prop} (_h : st.env.get d = .p (.c (.bool x))) (h1 : x = true → vOps P (⟨dst, some (d, b), op⟩ :: r) st Q) (h2 : x = false → vOps P (⟨dst, some (d, b), op⟩ :: r) st Q) : vOps P (⟨dst, some (d, b), op⟩ :: r) st Q := by
  cases x
  · exact h2 rfl
  · exact h1 rfl
theorem vD_nil {st : St} {Q : St → Prop} : vD P [] st Q = Q st := (rfl)
theorem vD_none {dst : Option Nat} {op : ROp} {r : List LOp} {st : St} {Q : St → Prop} : vD P (⟨dst, none, op⟩ :: r) st Q = vDop P op st fun v H k => vD P r (St.put ⟨st.env, H, k⟩ dst v) Q := (rfl)
theorem vD_on {dst : Option Nat} {d : Nat} {b : Bool} {op : ROp} {r : List LOp} {st : St} {Q : St → Prop} (h : st.env.get d = .p (.c (.bool b))) : vD P (⟨dst, some (d, b), op⟩ :: r) st Q = vDop P op st fun v H k => vD P r (St.put ⟨st.env, H, k⟩ dst v) Q := by
  simp [vD, h]
theorem vD_offt {dst : Option Nat} {d : Nat} {op : ROp} {r : List LOp} {st : St} {Q : St → Prop} (h : st.env.get d = .p (.c (.bool false))) : vD P (⟨dst, some (d, true), op⟩ :: r) st Q = vD P r (st.put dst (.tup [])) Q := by
  simp [vD, h]
theorem vD_offf {dst : Option Nat} {d : Nat} {op : ROp} {r : List LOp} {st : St} {Q : St → Prop} (h : st.env.get d = .p (.c (.bool true))) : vD P (⟨dst, some (d, false), op⟩ :: r) st Q = vD P r (st.put dst (.tup [])) Q := by
  simp [vD, h]
theorem vD_split {dst : Option Nat} {d : Nat} {b x : Bool} {op : ROp} {r : List LOp} {st : St} {Q : St → Prop} (_h : st.env.get d = .p (.c (.bool x))) (h1 : x = true → vD P (⟨dst, some (d, b), op⟩ :: r) st Q) (h2 : x = false → vD P (⟨dst, some (d, b), op⟩ :: r) st Q) : vD P (⟨dst, some (d, b), op⟩ :: r) st Q := by
  cases x
  · exact h2 rfl
  · exact h1 rfl
structure IsK (K K0 : St → Prop) : Prop where
  eq : K = K0
theorem IsK.go {K K0 : St → Prop} {s : St} (h : IsK K K0) (h' : K0 s) : K s := by rw [h.eq]; exact h'
theorem aw_srH {nt : Nat} {ls : List LOp} {y : RCode} {Q : RExit → St → Prop} {st : St} (h : ∀ K, IsK K (fun s => AWr P nt y Q s) → vOps P ls st K) : AWr P nt (.seq (.region false ls) y) Q st :=
  aw_sr (h _ ⟨rfl⟩)
theorem aw_sdH {nt : Nat} {ls : List LOp} {y : RCode} {Q : RExit → St → Prop} {st : St} (h : ∀ K, IsK K (fun s => AWr P nt y Q s) → vD P ls st K) : AWr P nt (.seq (.region true ls) y) Q st :=
  aw_sd (h _ ⟨rfl⟩)
theorem aw_seqH {nt : Nat} {x y : RCode} {Q : RExit → St → Prop} {st : St} (h : ∀ Q', IsQ Q' (fun e s => match e with | .normal => AWr P nt y Q s | e => Q e s) → AWr P nt x Q' st) : AWr P nt (.seq x y) Q st :=
  aw_seq (h _ ⟨rfl⟩)
theorem aw_blockH {nt : Nat} {id : Nat} {x : RCode} {Q : RExit → St → Prop} {st : St} (h : ∀ Q', IsQ Q' (fun e s => match e with | .exit id' => if id' = id then Q .normal s else Q (.exit id') s | e => Q e s) → AWr P nt x Q' st) : AWr P nt (.block id x) Q st :=
  aw_block (h _ ⟨rfl⟩)
theorem aw_hide {nt : Nat} {x : RCode} {Q : RExit → St → Prop} {st : St} (h : ∀ Q', IsQ Q' Q → AWr P nt x Q' st) : AWr P nt x Q st := h _ ⟨rfl⟩
theorem aw_loopH {ι : Type} {nt : Nat} {x : RCode} {Q : RExit → St → Prop} {st : St} (S : ι → St) (μ : ι → Nat) (inv : ι → Prop) (i0 : ι) (hi : inv i0) (h0 : Upd st.k st (S i0))
    (h : ∀ i, inv i → ∀ Q', IsQ Q' (fun e s => match e with | .normal => ∃ j, inv j ∧ μ j < μ i ∧ Upd (S i).k s (S j) | e => Q e s) → AWr P nt x Q' (S i)) : AWr P nt (.loop x) Q st :=
  aw_loopS S μ inv i0 hi h0 fun i hi => h i hi _ ⟨rfl⟩

/-- What is known of a value because it stands for one. -/
theorem aw_fact {nt : Nat} {rc : RCode} {Q : RExit → St → Prop} {st : St} {φ : Prop} (t : Nat) {x : PV} (he : st.env.get t = .p x) (hφ : ∀ fz v, PRep fz x v → φ) (h : φ → AWr P nt rc Q st) : AWr P nt rc Q st := by
  intro c hc g w a h1 h2 h3
  have := h3.env t
  rw [he] at this
  exact h (hφ g.fz _ this) c hc g w a h1 h2 h3
theorem sl_lim {fz : Nat → Option Obj} {rows : List (List PV)} {v : Value} (h : PRep fz (.sl rows) v) : rows.length ≤ top := by
  simp only [PRep] at h; exact h.1
theorem agg_at {fz : Nat → Option Obj} {cs : List PV} {v : Value} (h : PRep fz (.agg cs) v) : ∀ (i : Nat) (x : PV), cs[i]? = some x → ∃ u, PRep fz x u := by
  simp only [PRep] at h
  obtain ⟨vs, _, hl⟩ := h
  generalize vs.toList = l at hl
  induction cs generalizing l with
  | nil => intro i x h; simp at h
  | cons c cs ih =>
    intro i x hx
    simp only [PRepL] at hl
    obtain ⟨a, r, _, h1, h2⟩ := hl
    cases i with
    | zero => simp at hx; subst hx; exact ⟨a, h1⟩
    | succ i => exact ih r h2 i x (by simpa using hx)
theorem sl_row {fz : Nat → Option Obj} {rows : List (List PV)} {v : Value} (h : PRep fz (.sl rows) v) : ∀ (i : Nat) (r : List PV), rows[i]? = some r → ∃ us, PRepL fz r us := by
  simp only [PRep] at h
  rcases h.2 with ⟨rfl, _⟩ | ⟨b, off, cap, w, cs, t, fr, vals, _, _, _, hr, _⟩
  · intro i r h; simp at h
  · intro i r hi
    obtain ⟨u, _, h2⟩ := PRepLL.get hr hi
    exact ⟨u, h2⟩

/-! ### Lists -/
theorem take_set_drop {α : Type} (l : List α) (i : Nat) (x : α) (h : i < l.length) : l.take i ++ [x] ++ l.drop (i + 1) = l.set i x := by
  rw [List.set_eq_take_append_cons_drop, if_pos h]; simp
theorem getElem?_some_lt {α : Type} {l : List α} {i : Nat} {x : α} (h : l[i]? = some x) : i < l.length := (List.getElem?_eq_some_iff.1 h).1
theorem getElem?_none_le {α : Type} {l : List α} {i : Nat} (h : l[i]? = none) : l.length ≤ i := by simpa using h
end Go.Abs
