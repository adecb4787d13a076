/-
  Abs, part 16: rules that fit the walk; calls that only compute.
-/
import Derived.Test.YtjjhmldeammecaaA15
namespace Go.Abs
open Go

variable {P : Program}

theorem aw_sr {nt : Nat} {ls : List LOp} {y : RCode} {Q : RExit → St → Prop} {st : St} (h : vOps P ls st (fun s => AWr P nt y Q s)) : AWr P nt (.seq (.region false ls) y) Q st :=
  aw_seq (aw_region h)
/-- A function that only computes. -/
def APure (P : Program) (f : FuncId) (xs : List AV) (r : AV) : Prop := ACalls P f xs [] 0 (fun r' H' k' => r' = r ∧ H' = [] ∧ k' = 0)

mutual
theorem free_rep {g g' : G} {H H' : Heap} {k k' : Nat} (hf : g'.fz = g.fz) : ∀ (x : AV) (v : Value), belowA 0 x → ARep g H k x v → ARep g' H' k' x v
  | .p x, v, _, h => by simp only [ARep] at *; rw [hf]; exact h
  | .junk, _, _, _ => by simp only [ARep]
  | .agg cs, v, hb, h => by
    simp only [ARep, belowA] at *
    obtain ⟨vs, e, hl⟩ := h
    exact ⟨vs, e, freeL_rep hf cs _ hb hl⟩
  | .tup cs, v, hb, h => by
    simp only [ARep, belowA] at *
    obtain ⟨vs, e, hl⟩ := h
    exact ⟨vs, e, freeL_rep hf cs _ hb hl⟩
  | .bp n off, v, hb, h => by simp [belowA] at hb
  | .ep n i j len, v, hb, h => by simp [belowA] at hb
  | .os n off len, v, hb, h => by simp [belowA] at hb
  | .mp n, v, hb, h => by simp [belowA] at hb
  | .fn f a b, v, hb, h => by
    simp only [ARep, belowA] at *
    obtain ⟨x, y, e, h1, h2⟩ := h
    exact ⟨x, y, e, freeL_rep hf _ _ hb.1 h1, freeL_rep hf _ _ hb.2 h2⟩
  | .ifc t x, v, hb, h => by
    simp only [ARep, belowA] at *
    obtain ⟨y, e, h1⟩ := h
    exact ⟨y, e, free_rep hf _ _ hb h1⟩
theorem freeL_rep {g g' : G} {H H' : Heap} {k k' : Nat} (hf : g'.fz = g.fz) : ∀ (x : List AV) (v : List Value), belowL 0 x → ARepL g H k x v → ARepL g' H' k' x v
  | [], _, _, h => by simp only [ARepL] at *; exact h
  | x :: xs, v, hb, h => by
    simp only [ARepL, belowL] at *
    obtain ⟨a, r, e, h1, h2⟩ := h
    exact ⟨a, r, e, free_rep hf x a hb.1 h1, freeL_rep hf xs r hb.2 h2⟩
end

theorem SimH.nil {g : G} {w : World} {H : Heap} {k : Nat} (hs : SimH g w H k) (k' : Nat) : SimH g w [] k' :=
  ⟨fun n o h => by simp [Heap.get] at h, fun n m b h => by simp [Heap.get] at h, hs.fz⟩

/-- What a call that owns nothing leaves of what its caller owns: 'fz' says what is shut behind it. -/
theorem call_nil {g g1 : G} {w w' : World} {H : Heap} {k : Nat} (hs : SimH g w H k) (hframe : ∀ b, b < w.heap.size → w'.heap[b]? = w.heap[b]?) (hρ : g1.ρ = g.ρ) (hfz : ∀ b o, g.fz b = some o → g1.fz b = some o)
    (hnew : ∀ b o, g1.fz b = some o → g.fz b = some o ∨ w.heap.size ≤ b) (hw : ∀ b o, g1.fz b = some o → w'.heap[b]? = some o) (h1 : w'.os = w.os) (h2 : w'.tape = w.tape) (h3 : w'.output = w.output) (h4 : w.heap.size ≤ w'.heap.size) :
    SimH g1 w' H k ∧ Evo g w H k g1 w' H k := by
  have hk : Keeps g H k g1 H k := ⟨Nat.le_refl _, hfz, fun n o' hn ho => ⟨o', ho, by rw [hρ]; exact Compat.refl _ _⟩⟩
  refine ⟨⟨fun n o h => ?_, fun n m b h1 h2 h3 h4 => ?_, hw⟩, ?_⟩
  · obtain ⟨q1, q2, q3⟩ := hs.obj n o h
    refine ⟨q1, ORep.keeps hk (by rw [hρ]) (fun b hb => hframe b (q3 b hb).2) q2, fun b hb => ?_⟩
    rw [hρ] at hb
    refine ⟨?_, Nat.lt_of_lt_of_le (q3 b hb).2 h4⟩
    cases e : g1.fz b with
    | none => rfl
    | some o' =>
      rcases hnew b o' e with h5 | h5
      · rw [(q3 b hb).1] at h5; cases h5
      · have := (q3 b hb).2; omega
  · rw [hρ] at h3 h4
    exact hs.inj n m b h1 h2 h3 h4
  · exact { kle := Nat.le_refl _, os := h1, tape := h2, output := h3, size := h4, fz := hfz
            fzNew := fun b o h => (hnew b o h).imp id .inr
            frame := fun b hb _ => hframe b hb
            names := fun n _ _ => by rw [hρ]
            dom := fun n _ h => h
            compat := fun n o o' hn h h' => by rw [h] at h'; cases h'; rw [hρ]; exact Compat.refl _ _
            blks := fun n b h h' => .inl ⟨n, h, by rw [← hρ]; exact h'⟩ }

theorem call_pure {f : FuncId} {xs : List AV} {r : AV} {avs : List AV} {H : Heap} {k : Nat} {K : AV → Heap → Nat → Prop} (hc : APure P f xs r) (hx : avs = xs) (hxs : belowL 0 xs) (hr : belowA 0 r) (hK : K r H k) : ACalls P f avs H k K := by
  subst hx
  intro g w args hs ha
  refine (hc g w args (hs.nil 0) (freeL_rep rfl _ _ hxs ha)).mono ?_
  rintro e w' ⟨v, r', g', H', k', rfl, ⟨rfl, rfl, rfl⟩, h1, h2, h3⟩
  have hfr : ∀ b, b < w.heap.size → w'.heap[b]? = w.heap[b]? := fun b hb => h3.frame b hb (fun n h => absurd rfl h)
  obtain ⟨h4, h5⟩ := call_nil (g1 := ⟨g.ρ, g'.fz⟩) hs hfr rfl h3.fz (fun b o h => by
    rcases h3.fzNew b o h with h | ⟨n, h1, _⟩ | h
    · exact .inl h
    · exact absurd rfl h1
    · exact .inr h) h2.fz h3.os h3.tape h3.output h3.size
  exact ⟨v, r', ⟨g.ρ, g'.fz⟩, H, k, rfl, hK, free_rep (g := g') (g' := ⟨g.ρ, g'.fz⟩) rfl _ _ hr h1, h4, h5⟩

/-! ### What a callee only reads may be lent to it -/
mutual
def scalarP : PV → Bool
  | .c _ => true
  | .agg cs => scalarPs cs
  | _ => false
def scalarPs : List PV → Bool
  | [] => true
  | x :: xs => scalarP x && scalarPs xs
end
def scalarA : AV → Bool
  | .p x => scalarP x
  | .tup l => l.all fun | .p x => scalarP x | _ => false
  | _ => false
mutual
theorem scalarP_rep {fz fz' : Nat → Option Obj} : ∀ (x : PV) (v : Value), scalarP x = true → PRep fz x v → PRep fz' x v
  | .c _, _, _, h => by simp only [PRep] at *; exact h
  | .agg cs, v, hs, h => by
    simp only [PRep, scalarP] at *
    obtain ⟨vs, e, hl⟩ := h
    exact ⟨vs, e, scalarPs_rep cs _ hs hl⟩
  | .sl _, _, hs, _ => by simp [scalarP] at hs
  | .ptr _, _, hs, _ => by simp [scalarP] at hs
  | .mp _, _, hs, _ => by simp [scalarP] at hs
theorem scalarPs_rep {fz fz' : Nat → Option Obj} : ∀ (x : List PV) (v : List Value), scalarPs x = true → PRepL fz x v → PRepL fz' x v
  | [], _, _, h => by simp only [PRepL] at *; exact h
  | x :: xs, v, hs, h => by
    simp only [PRepL, scalarPs, Bool.and_eq_true] at *
    obtain ⟨a, r, e, h1, h2⟩ := h
    exact ⟨a, r, e, scalarP_rep x a hs.1 h1, scalarPs_rep xs r hs.2 h2⟩
end
theorem scalarA_rep {g g' : G} {H H' : Heap} {k k' : Nat} : ∀ {x : AV} {v : Value}, scalarA x = true → ARep g H k x v → ARep g' H' k' x v := by
  have hl : ∀ (l : List AV) (vs : List Value), (l.all fun | .p x => scalarP x | _ => false) = true → ARepL g H k l vs → ARepL g' H' k' l vs := by
    intro l
    induction l with
    | nil => intro vs _ h; simp only [ARepL] at *; exact h
    | cons y l ih =>
      intro vs hp h
      simp only [List.all_cons, Bool.and_eq_true] at hp
      simp only [ARepL] at *
      obtain ⟨v, r, e, h1, h2⟩ := h
      refine ⟨v, r, e, ?_, ih r hp.2 h2⟩
      cases y <;> simp only [Bool.false_eq_true, false_and] at hp
      simp only [ARep] at *
      exact scalarP_rep _ _ hp.1 h1
  intro x v hp h
  cases x <;> simp only [scalarA, Bool.false_eq_true] at hp
  · simp only [ARep] at *; exact scalarP_rep _ _ hp h
  · simp only [ARep] at *
    obtain ⟨vs, e, h1⟩ := h
    exact ⟨vs, e, hl _ _ hp h1⟩

def frzN : Nat → Heap → AV → AV
  | 0, _, x => x
  | n + 1, H, x => frzN n (H.frz (fun _ => true) H) (x.frz (fun _ => true) H)
def frzNL : Nat → Heap → List AV → List AV
  | 0, _, x => x
  | n + 1, H, x => frzNL n (H.frz (fun _ => true) H) (frzL (fun _ => true) H x)

/-- To lend. -/
theorem lend {g : G} {w : World} {k : Nat} {avs : List AV} {vs : List Value} : ∀ (n : Nat) {H : Heap}, SimH g w H k → ARepL g H k avs vs → belowL 0 (frzNL n H avs) →
    ∃ g1, SimH g1 w [] 0 ∧ ARepL g1 [] 0 (frzNL n H avs) vs ∧ g1.ρ = g.ρ ∧ (∀ b o, g.fz b = some o → g1.fz b = some o) ∧ ∀ b o, g1.fz b = some o → g.fz b = some o ∨ ∃ n, H.get n ≠ none ∧ (g.ρ n).blk = some b := by
  intro n
  induction n generalizing g avs with
  | zero =>
    intro H hs ha hb
    exact ⟨g, hs.nil 0, freeL_rep rfl _ _ hb ha, rfl, fun _ _ h => h, fun _ _ h => .inl h⟩
  | succ n ih =>
    intro H hs ha hb
    obtain ⟨g1, h1, h2, h3, h4, h5⟩ := ih (g := shutG (fun _ => true) g w H) hs.frz (frzL_rep hs _ _ ha) hb
    refine ⟨g1, h1, h2, h3, fun b o h => h4 b o (shut_fz hs _ _ h), fun b o h => ?_⟩
    rcases h5 b o h with h | ⟨m, hm, hb⟩
    · simp only [shutG] at h
      split at h
      · rename_i hc
        obtain ⟨m, o1, hm, _, hbm⟩ := hc
        exact .inr ⟨m, by rw [hm]; simp, hbm⟩
      · exact .inl h
    · exact .inr ⟨m, fun e => hm (by rw [frz_get, e]), hb⟩

open Classical in
theorem call_lent {f : FuncId} {xs : List AV} {r : AV} {avs : List AV} {H : Heap} {k : Nat} {K : AV → Heap → Nat → Prop} (hc : APure P f xs r) (n : Nat) (hx : frzNL n H avs = xs) (hxs : belowL 0 xs) (hr : scalarA r = true) (hK : K r H k) : ACalls P f avs H k K := by
  subst hx
  intro g w args hs ha
  obtain ⟨g1, s1, s2, s3, s4, s5⟩ := lend n hs ha hxs
  refine (hc g1 w args s1 s2).mono ?_
  rintro e w' ⟨v, r', g', H', k', rfl, ⟨rfl, rfl, rfl⟩, h1, h2, h3⟩
  have hfr : ∀ b, b < w.heap.size → w'.heap[b]? = w.heap[b]? := fun b hb => h3.frame b hb (fun n h => absurd rfl h)
  let g2 : G := ⟨g.ρ, fun b => if ∃ n, H.get n ≠ none ∧ (g.ρ n).blk = some b then g.fz b else g'.fz b⟩
  have hown : ∀ b o, g.fz b = some o → ¬ ∃ n, H.get n ≠ none ∧ (g.ρ n).blk = some b := by
    rintro b o h ⟨n, hn, hb⟩
    cases e : H.get n with
    | none => exact hn e
    | some o1 => rw [((hs.obj n _ e).2.2 b hb).1] at h; cases h
  obtain ⟨h4, h5⟩ := call_nil (g1 := g2) hs hfr rfl (fun b o h => by
      show (if ∃ n, H.get n ≠ none ∧ (g.ρ n).blk = some b then g.fz b else g'.fz b) = some o
      rw [if_neg (hown b o h)]
      exact h3.fz _ _ (s4 b o h)) (fun b o h => by
      have h : (if ∃ n, H.get n ≠ none ∧ (g.ρ n).blk = some b then g.fz b else g'.fz b) = some o := h
      split at h
      · exact .inl h
      · rename_i hno
        rcases h3.fzNew b o h with h | ⟨n, h1, _⟩ | h
        · rcases s5 b o h with h | h
          · exact .inl h
          · exact absurd h hno
        · exact absurd rfl h1
        · exact .inr h) (fun b o h => by
      have h : (if ∃ n, H.get n ≠ none ∧ (g.ρ n).blk = some b then g.fz b else g'.fz b) = some o := h
      split at h
      · exact h2.fz b o (h3.fz _ _ (s4 b o h))
      · exact h2.fz b o h) h3.os h3.tape h3.output h3.size
  exact ⟨v, r', g2, H, k, rfl, hK, scalarA_rep hr h1, h4, h5⟩

theorem vOp_call {f : FuncId} {args : List RX} {st : St} {K : AV → Heap → Nat → Prop} {xs : List AV} {r : AV} (hc : APure P f xs r) (hx : args.map st.ev = xs) (hxs : belowL 0 xs) (hr : belowA 0 r) (hK : K r st.H st.k) : vOp P (.call f args) st K :=
  call_pure hc hx hxs hr hK
theorem vOp_lent {f : FuncId} {args : List RX} {st : St} {K : AV → Heap → Nat → Prop} {xs : List AV} {r : AV} (hc : APure P f xs r) (n : Nat) (hx : frzNL n st.H (args.map st.ev) = xs) (hxs : belowL 0 xs) (hr : scalarA r = true) (hK : K r st.H st.k) : vOp P (.call f args) st K :=
  call_lent hc n hx hxs hr hK

/-- The end of a function that only computes: all that it made may be shut and forgotten. -/
def FinP (n : Nat) (rs : List RRes) (s : St) (r : AV) : Prop :=
  match resv rs s with
  | some r' => frzN n s.H r' = r ∧ belowA 0 r
  | none => False

theorem frzN_upd (k0 : Nat) : ∀ (n : Nat) {r : AV} {H : Heap} {k : Nat}, belowA 0 (frzN n H r) → RUpd k0 r H k (frzN n H r) [] k0 := by
  intro n
  induction n with
  | zero =>
    intro r H k hb g w v hs hv
    exact ⟨g, hs.nil k0, free_rep rfl _ _ hb hv, fun g0 w0 H0 e => e.sub (fun n o h => by simp [Heap.get] at h) (Nat.le_refl _)⟩
  | succ n ih =>
    intro r H k hb g w v hs hv
    obtain ⟨g', h1, h2, h3⟩ := ih hb (shutG (fun _ => true) g w H) w v (hs.frz) (frz_rep hs _ _ hv)
    exact ⟨g', h1, h2, fun g0 w0 H0 e => h3 g0 w0 H0 (e.frz hs)⟩

theorem fin_pure {n : Nat} {rs : List RRes} {s : St} {k0 : Nat} {r : AV} (h : FinP n rs s r) : Fin rs s k0 (fun r' H' k' => r' = r ∧ H' = [] ∧ k' = k0) := by
  unfold FinP at h
  unfold Fin
  cases hr : resv rs s with
  | none => rw [hr] at h; exact h.elim
  | some r' =>
    rw [hr] at h
    obtain ⟨h1, h2⟩ := h
    subst h1
    exact ⟨_, [], k0, frzN_upd k0 n h2, rfl, rfl, rfl⟩

theorem apure (n : Nat) {f : FuncId} {rf : RFun} (hl : lowF P f = some rf) {xs : List AV} {r : AV} (hn : xs.length = rf.np)
    (h : AWr P rf.nt rf.code (fun e s => match e with | .exit _ => False | _ => FinP n rf.res s r) ⟨argEnv 0 xs, [], 0⟩) : APure P f xs r := by
  refine afun hl hn (aw_mono h ?_)
  intro e s hs
  cases e with
  | exit id => exact hs
  | normal => exact fin_pure hs
  | ret => exact fin_pure hs

/-- A loop over a family of states. -/
theorem aw_loopS {ι : Type} {nt : Nat} {x : RCode} {Q : RExit → St → Prop} {st : St} (S : ι → St) (μ : ι → Nat) (inv : ι → Prop) (i0 : ι) (hi : inv i0) (h0 : Upd st.k st (S i0))
    (h : ∀ i, inv i → AWr P nt x (fun e s => match e with | .normal => ∃ j, inv j ∧ μ j < μ i ∧ Upd (S i).k s (S j) | e => Q e s) (S i)) : AWr P nt (.loop x) Q st := by
  refine aw_upd h0 (aw_loop (fun n s => ∃ i, inv i ∧ n = μ i ∧ s = S i) (μ i0) ⟨i0, hi, rfl, rfl⟩ ?_)
  rintro n s ⟨i, h1, rfl, rfl⟩
  refine aw_mono (h i h1) ?_
  intro e s hs
  cases e with
  | normal =>
    obtain ⟨j, h2, h3, h4⟩ := hs
    exact ⟨S j, μ j, h4, h3, j, h2, rfl, rfl⟩
  | exit id => exact hs
  | ret => exact hs

abbrev vi (n : Int) : PV := .c (.int .i64 n)
abbrev vb (b : Bool) : PV := .c (.bool b)
abbrev vs (s : ByteArray) : PV := .c (.string s)
theorem wrap64 {n : Int} (h1 : -9223372036854775808 ≤ n) (h2 : n ≤ 9223372036854775807) : IntKind.i64.wrap n = n := by
  rw [IntKind.wrap_i64]; omega
end Go.Abs
