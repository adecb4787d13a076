/-
  Abs, part 13: code, loops and calls.
-/
import Derived.Test.YtjjhmldeammecaaA12
namespace Go.Abs
open Go

variable {P : Program}

def ACalls (P : Program) (f : FuncId) (avs : List AV) (H : Heap) (k : Nat) (K : AV → Heap → Nat → Prop) : Prop :=
  ∀ (g : G) (w : World) (args : Array Value), SimH g w H k → ARepL g H k avs args.toList →
    Calls P f args w fun e w' => ∃ v r g' H' k', e = .returned v ∧ K r H' k' ∧ ARep g' H' k' r v ∧ SimH g' w' H' k' ∧ Evo g w H k g' w' H' k'

inductive RExit where
  | normal
  | exit (id : Nat)
  | ret

def RExit.rel : RExit → Exit → Prop
  | .normal, .normal => True
  | .exit a, .exit b => a = b
  | .ret, .ret => True
  | _, _ => False

/-- What is asked of where the code ends. -/
def Post (P : Program) (nt : Nat) (Q : RExit → St → Prop) (g : G) (w : World) (H : Heap) (k : Nat) (e : Exit) (a' : Act) (w' : World) : Prop :=
  ∃ e' st' g', RExit.rel e' e ∧ Q e' st' ∧ a'.tmps.size = nt ∧ a'.defers = [] ∧ Sim g' w' st' a'.tmps ∧ Evo g w H k g' w' st'.H st'.k

def AW (P : Program) (nt : Nat) (c : Code) (Q : RExit → St → Prop) (st : St) : Prop :=
  ∀ (g : G) (w : World) (a : Act), a.tmps.size = nt → a.defers = [] → Sim g w st a.tmps → c.wp P (Post P nt Q g w st.H st.k) a w

def AWr (P : Program) (nt : Nat) (rc : RCode) (Q : RExit → St → Prop) (st : St) : Prop := ∀ c, lower P nt c = some rc → AW P nt c Q st

theorem Post.trans {nt : Nat} {Q : RExit → St → Prop} {g g' : G} {w w' : World} {H H' : Heap} {k k' : Nat} {e : Exit} {a : Act} {w'' : World} (h : Evo g w H k g' w' H' k') (hp : Post P nt Q g' w' H' k' e a w'') : Post P nt Q g w H k e a w'' := by
  obtain ⟨e', st', g'', h1, h2, h3, h4, h5, h6⟩ := hp
  exact ⟨e', st', g'', h1, h2, h3, h4, h5, h.trans h6⟩

theorem aw_mono {nt : Nat} {rc : RCode} {Q Q' : RExit → St → Prop} {st : St} (h : AWr P nt rc Q st) (hq : ∀ e s, Q e s → Q' e s) : AWr P nt rc Q' st :=
  fun c hc g w a h1 h2 h3 => wp_mono (h c hc g w a h1 h2 h3) fun _ _ _ ⟨e', st', g', r1, r2, r3⟩ => ⟨e', st', g', r1, hq _ _ r2, r3⟩

theorem lower_skip {nt : Nat} {c : Code} (h : lower P nt c = some .skip) : c = .skip := by
  cases c <;> simp only [lower, Option.bind_eq_bind, Option.bind_eq_some_iff, Option.map_eq_some_iff, Option.pure_def, Option.some.injEq, Option.ite_none_left_eq_some, reduceCtorEq, and_false, exists_false, exists_const] at h
  rfl
theorem lower_ret {nt : Nat} {c : Code} (h : lower P nt c = some .ret) : c = .ret := by
  cases c <;> simp only [lower, Option.bind_eq_bind, Option.bind_eq_some_iff, Option.map_eq_some_iff, Option.pure_def, Option.some.injEq, Option.ite_none_left_eq_some, reduceCtorEq, and_false, exists_false, exists_const] at h
  rfl
theorem lower_exit {nt : Nat} {c : Code} {id : Nat} (h : lower P nt c = some (.exit id)) : c = .exit id := by
  cases c <;> simp only [lower, Option.bind_eq_bind, Option.bind_eq_some_iff, Option.map_eq_some_iff, Option.pure_def, Option.some.injEq, Option.ite_none_left_eq_some, reduceCtorEq, and_false, exists_false, exists_const, RCode.exit.injEq] at h
  subst h; rfl
theorem lower_seq {nt : Nat} {c : Code} {x y : RCode} (h : lower P nt c = some (.seq x y)) : ∃ a b, c = .seq a b ∧ lower P nt a = some x ∧ lower P nt b = some y := by
  cases c <;> simp only [lower, Option.bind_eq_bind, Option.bind_eq_some_iff, Option.map_eq_some_iff, Option.pure_def, Option.some.injEq, Option.ite_none_left_eq_some, reduceCtorEq, and_false, exists_false, exists_const, RCode.seq.injEq] at h
  obtain ⟨x', h1, y', h2, rfl, rfl⟩ := h
  exact ⟨_, _, rfl, h1, h2⟩
theorem lower_cond {nt : Nat} {c : Code} {z : RX} {x y : RCode} (h : lower P nt c = some (.cond z x y)) : ∃ o a b, c = .cond o a b ∧ lowX o = some z ∧ lower P nt a = some x ∧ lower P nt b = some y := by
  cases c <;> simp only [lower, Option.bind_eq_bind, Option.bind_eq_some_iff, Option.map_eq_some_iff, Option.pure_def, Option.some.injEq, Option.ite_none_left_eq_some, reduceCtorEq, and_false, exists_false, exists_const, RCode.cond.injEq] at h
  obtain ⟨z', h0, x', h1, y', h2, rfl, rfl, rfl⟩ := h
  exact ⟨_, _, _, rfl, h0, h1, h2⟩
theorem lower_block {nt : Nat} {c : Code} {id : Nat} {x : RCode} (h : lower P nt c = some (.block id x)) : ∃ a, c = .block id a ∧ lower P nt a = some x := by
  cases c <;> simp only [lower, Option.bind_eq_bind, Option.bind_eq_some_iff, Option.map_eq_some_iff, Option.pure_def, Option.some.injEq, Option.ite_none_left_eq_some, reduceCtorEq, and_false, exists_false, exists_const, RCode.block.injEq] at h
  obtain ⟨x', h1, rfl, rfl⟩ := h
  exact ⟨_, rfl, h1⟩
theorem lower_loop {nt : Nat} {c : Code} {x : RCode} (h : lower P nt c = some (.loop x)) : ∃ a, c = .loop a ∧ lower P nt a = some x := by
  cases c <;> simp only [lower, Option.bind_eq_bind, Option.bind_eq_some_iff, Option.map_eq_some_iff, Option.pure_def, Option.some.injEq, Option.ite_none_left_eq_some, reduceCtorEq, and_false, exists_false, exists_const, RCode.loop.injEq] at h
  obtain ⟨x', h1, rfl⟩ := h
  exact ⟨_, rfl, h1⟩
theorem lower_region {nt : Nat} {c : Code} {d : Bool} {l : List LOp} (h : lower P nt c = some (.region d l)) : ∃ id ops, c = .region id ops d ∧ ops.toList.mapM (lowOper P nt ops) = some l ∧ (d = true → okDraw P ops l = true) := by
  cases c <;> simp only [lower, Option.bind_eq_bind, Option.bind_eq_some_iff, Option.map_eq_some_iff, Option.pure_def, Option.some.injEq, Option.ite_none_left_eq_some, reduceCtorEq, and_false, exists_false, exists_const, RCode.region.injEq] at h
  obtain ⟨x', h1, h2, rfl, rfl⟩ := h
  refine ⟨_, _, rfl, h1, fun hd => ?_⟩
  subst hd
  simpa using h2

theorem aw_skip {nt : Nat} {Q : RExit → St → Prop} {st : St} (h : Q .normal st) : AWr P nt .skip Q st := by
  intro c hc g w a h1 h2 h3
  rw [lower_skip hc]
  exact wp_skip ⟨.normal, st, g, trivial, h, h1, h2, h3, Evo.refl⟩
theorem aw_ret {nt : Nat} {Q : RExit → St → Prop} {st : St} (h : Q .ret st) : AWr P nt .ret Q st := by
  intro c hc g w a h1 h2 h3
  rw [lower_ret hc]
  exact wp_ret ⟨.ret, st, g, trivial, h, h1, h2, h3, Evo.refl⟩
theorem aw_exit {nt : Nat} {Q : RExit → St → Prop} {st : St} {id : Nat} (h : Q (.exit id) st) : AWr P nt (.exit id) Q st := by
  intro c hc g w a h1 h2 h3
  rw [lower_exit hc]
  exact wp_exit ⟨.exit id, st, g, rfl, h, h1, h2, h3, Evo.refl⟩
theorem aw_seq {nt : Nat} {x y : RCode} {Q : RExit → St → Prop} {st : St} (h : AWr P nt x (fun e s => match e with | .normal => AWr P nt y Q s | e => Q e s) st) : AWr P nt (.seq x y) Q st := by
  intro c hc g w a h1 h2 h3
  obtain ⟨ca, cb, rfl, l1, l2⟩ := lower_seq hc
  refine wp_seq (wp_mono (h ca l1 g w a h1 h2 h3) fun e a' w' ⟨e', st', g', r1, r2, r3, r4, r5, r6⟩ => ?_)
  cases e' with
  | normal =>
    cases e <;> simp only [RExit.rel] at r1
    exact wp_mono (r2 cb l2 g' w' a' r3 r4 r5) fun _ _ _ hp => hp.trans r6
  | exit id =>
    cases e <;> simp only [RExit.rel] at r1
    exact ⟨.exit id, st', g', r1, r2, r3, r4, r5, r6⟩
  | ret =>
    cases e <;> simp only [RExit.rel] at r1
    exact ⟨.ret, st', g', trivial, r2, r3, r4, r5, r6⟩
theorem aw_cond {nt : Nat} {z : RX} {x y : RCode} {Q : RExit → St → Prop} {st : St} {t : Bool} (hz : st.ev z = .p (.c (.bool t))) (h1 : t = true → AWr P nt x Q st) (h2 : t = false → AWr P nt y Q st) : AWr P nt (.cond z x y) Q st := by
  intro c hc g w a s1 s2 s3
  obtain ⟨o, ca, cb, rfl, l0, l1, l2⟩ := lower_cond hc
  have hr := lowX_rep (k := st.k) s3.env l0
  rw [hz] at hr
  have he := rep_c hr
  refine wp_cond_split he (fun ht => h1 ht ca l1 g w a s1 s2 s3) (fun ht => h2 ht cb l2 g w a s1 s2 s3)
theorem aw_block {nt : Nat} {id : Nat} {x : RCode} {Q : RExit → St → Prop} {st : St} (h : AWr P nt x (fun e s => match e with | .exit id' => if id' = id then Q .normal s else Q (.exit id') s | e => Q e s) st) : AWr P nt (.block id x) Q st := by
  intro c hc g w a h1 h2 h3
  obtain ⟨ca, rfl, l1⟩ := lower_block hc
  refine wp_block (wp_mono (h ca l1 g w a h1 h2 h3) fun e a' w' ⟨e', st', g', r1, r2, r3, r4, r5, r6⟩ => ?_)
  cases e' with
  | normal =>
    cases e <;> simp only [RExit.rel] at r1
    exact ⟨.normal, st', g', trivial, r2, r3, r4, r5, r6⟩
  | exit id' =>
    cases e <;> simp only [RExit.rel] at r1
    subst r1
    simp only [Exit.inBlock]
    by_cases e : id' = id
    · simp only [e, if_true] at r2 ⊢
      exact ⟨.normal, st', g', trivial, r2, r3, r4, r5, r6⟩
    · simp only [e, if_false] at r2 ⊢
      exact ⟨.exit id', st', g', rfl, r2, r3, r4, r5, r6⟩
  | ret =>
    cases e <;> simp only [RExit.rel] at r1
    exact ⟨.ret, st', g', trivial, r2, r3, r4, r5, r6⟩

/-- A step of the ghost alone: from the state 's' to the state 's'' (no name below 'k0' is lost from count). -/
def Upd (k0 : Nat) (s s' : St) : Prop :=
  ∀ (g : G) (w : World) (tm : Array Value), Sim g w s tm → ∃ g', Sim g' w s' tm ∧ ∀ (g0 : G) (w0 : World) (H0 : Heap), Evo g0 w0 H0 k0 g w s.H s.k → Evo g0 w0 H0 k0 g' w s'.H s'.k

theorem Upd.refl (k0 : Nat) (s : St) : Upd k0 s s := fun g w tm h => ⟨g, h, fun _ _ _ e => e⟩
theorem Upd.trans {k0 : Nat} {s s' s'' : St} (h : Upd k0 s s') (h' : Upd k0 s' s'') : Upd k0 s s'' := fun g w tm hs => by
  obtain ⟨g1, s1, e1⟩ := h g w tm hs
  obtain ⟨g2, s2, e2⟩ := h' g1 w tm s1
  exact ⟨g2, s2, fun g0 w0 H0 e => e2 _ _ _ (e1 _ _ _ e)⟩

theorem aw_upd {nt : Nat} {rc : RCode} {Q : RExit → St → Prop} {st st' : St} (hu : Upd st.k st st') (h : AWr P nt rc Q st') : AWr P nt rc Q st := by
  intro c hc g w a h1 h2 h3
  obtain ⟨g', s', e'⟩ := hu g w a.tmps h3
  exact wp_mono (h c hc g' w a h1 h2 s') fun _ _ _ hp => hp.trans (e' g w st.H Evo.refl)

theorem exists_least (p : Nat → Prop) (h : ∃ n, p n) : ∃ m, p m ∧ ∀ n, p n → m ≤ n := by
  obtain ⟨n, hn⟩ := h
  induction n using Nat.strongRecOn with
  | _ n ih =>
    by_cases hx : ∃ m, m < n ∧ p m
    · obtain ⟨m, hm, hp⟩ := hx
      exact ih m hm hp
    · exact ⟨n, hn, fun m hm => Nat.le_of_not_lt fun hlt => hx ⟨m, hlt, hm⟩⟩

theorem aw_loop {nt : Nat} {x : RCode} {Q : RExit → St → Prop} {st : St} (I : Nat → St → Prop) (n : Nat) (h0 : I n st)
    (h : ∀ n s, I n s → AWr P nt x (fun e s' => match e with | .normal => ∃ s'' m, Upd s.k s' s'' ∧ m < n ∧ I m s'' | e => Q e s') s) : AWr P nt (.loop x) Q st := by
  intro c hc g w a h1 h2 h3
  obtain ⟨ca, rfl, l1⟩ := lower_loop hc
  let p : Act → World → Nat → Prop := fun a' w' n => ∃ s g', I n s ∧ a'.tmps.size = nt ∧ a'.defers = [] ∧ Sim g' w' s a'.tmps ∧ Evo g w st.H st.k g' w' s.H s.k
  let μ : Act → World → Nat := fun a' w' => @dite _ (∃ n, p a' w' n) (Classical.propDecidable _) (fun h => Classical.choose (exists_least _ h)) (fun _ => 0)
  have hμ : ∀ a' w' n, p a' w' n → p a' w' (μ a' w') ∧ μ a' w' ≤ n := by
    intro a' w' n hp
    have hex : ∃ n, p a' w' n := ⟨n, hp⟩
    have e : μ a' w' = Classical.choose (exists_least _ hex) := by simp only [μ, dif_pos hex]
    rw [e]
    have hs := Classical.choose_spec (exists_least _ hex)
    exact ⟨hs.1, hs.2 n hp⟩
  refine wp_loop (fun a' w' => ∃ n, p a' w' n) μ ⟨n, st, g, h0, h1, h2, h3, Evo.refl⟩ ?_
  rintro a' w' ⟨m, hm⟩
  obtain ⟨⟨s, g', q1, q2, q3, q4, q5⟩, _⟩ := hμ a' w' m hm
  refine wp_mono (h _ s q1 ca l1 g' w' a' q2 q3 q4) fun e a'' w'' ⟨e', st', g'', r1, r2, r3, r4, r5, r6⟩ => ?_
  cases e' with
  | normal =>
    cases e <;> simp only [RExit.rel] at r1
    obtain ⟨s'', m', u1, u2, u3⟩ := r2
    obtain ⟨g3, t1, t2⟩ := u1 g'' w'' a''.tmps r5
    have hp : p a'' w'' m' := ⟨s'', g3, u3, r3, r4, t1, q5.trans (t2 _ _ _ r6)⟩
    exact ⟨⟨m', hp⟩, Nat.lt_of_le_of_lt (hμ _ _ _ hp).2 u2⟩
  | exit id =>
    cases e <;> simp only [RExit.rel] at r1
    exact ⟨.exit id, st', g'', r1, r2, r3, r4, r5, q5.trans r6⟩
  | ret =>
    cases e <;> simp only [RExit.rel] at r1
    exact ⟨.ret, st', g'', trivial, r2, r3, r4, r5, q5.trans r6⟩
end Go.Abs
