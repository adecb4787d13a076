/-
  Abs, part 22: plain functions with loops, and the rules that walk code against them.
-/
import Derived.Test.YtjjhmldeammecaaA21
namespace Go.Abs
open Go

/-! ### Plain functions that may fail -/
theorem bind_some {α β : Type} {o : Option α} {k : α → Option β} {y : β} (h : o.bind k = some y) : ∃ x, o = some x ∧ k x = some y := Option.bind_eq_some_iff.1 h
abbrev w64 (z : Int) : Int := IntKind.i64.wrap z
def idx {α : Type} (l : List α) (i : Int) : Option α := if 0 ≤ i then l[i.toNat]? else none
theorem idx_some {α : Type} {l : List α} {i : Int} {x : α} (h : idx l i = some x) : 0 ≤ i ∧ l[i.toNat]? = some x := by
  unfold idx at h; split at h
  · exact ⟨by assumption, h⟩
  · cases h
theorem idx_map {α : Type} (c : α → List PV) {l : List α} {i : Int} {x : α} (h : idx l i = some x) : 0 ≤ i ∧ (l.map c)[i.toNat]? = some (c x) ∧ i.toNat < l.length := by
  obtain ⟨h1, h2⟩ := idx_some h
  exact ⟨h1, by rw [List.getElem?_map, h2]; rfl, (List.getElem?_eq_some_iff.1 h2).1⟩
def sidx (s : ByteArray) (i : Int) : Option Int := if 0 ≤ i then (s[i.toNat]?).map (fun b => (b.toNat : Int)) else none
theorem sidx_some {s : ByteArray} {i x : Int} (h : sidx s i = some x) : 0 ≤ i ∧ ∃ b, s[i.toNat]? = some b ∧ x = (b.toNat : Int) := by
  unfold sidx at h; split at h
  · obtain ⟨b, h1, h2⟩ := Option.map_eq_some_iff.1 h
    exact ⟨by assumption, b, h1, h2.symm⟩
  · cases h
def sslice (s : ByteArray) (lo hi : Int) : Option ByteArray := if 0 ≤ lo ∧ lo ≤ hi ∧ hi ≤ s.size then some (s.extract lo.toNat hi.toNat) else none
theorem sslice_some {s x : ByteArray} {lo hi : Int} (h : sslice s lo hi = some x) : (0 ≤ lo ∧ lo ≤ hi ∧ hi ≤ s.size) ∧ x = s.extract lo.toNat hi.toNat := by
  unfold sslice at h; split at h
  · cases h; exact ⟨by assumption, rfl⟩
  · cases h
def lslice {α : Type} (l : List α) (lo hi : Int) : Option (List α) := if 0 ≤ lo ∧ lo ≤ hi ∧ hi ≤ l.length then some ((l.take hi.toNat).drop lo.toNat) else none
theorem lslice_some {α : Type} {l x : List α} {lo hi : Int} (h : lslice l lo hi = some x) : (0 ≤ lo ∧ lo ≤ hi ∧ hi ≤ l.length) ∧ x = (l.take hi.toNat).drop lo.toNat := by
  unfold lslice at h; split at h
  · cases h; exact ⟨by assumption, rfl⟩
  · cases h
def scat (x y : ByteArray) : Option ByteArray := if x.size + y.size ≤ lim then some (x ++ y) else none
theorem scat_some {x y z : ByteArray} (h : scat x y = some z) : x.size + y.size ≤ lim ∧ z = x ++ y := by
  unfold scat at h; split at h
  · cases h; exact ⟨by assumption, rfl⟩
  · cases h
def app {α : Type} (b : Nat) (l m : List α) : Option (List α) := if (l.length + m.length) * b ≤ lim ∧ l.length + m.length ≤ lim then some (l ++ m) else none
theorem app_some {α : Type} {b : Nat} {l m x : List α} (h : app b l m = some x) : ((l.length + m.length) * b ≤ lim ∧ l.length + m.length ≤ lim) ∧ x = l ++ m := by
  unfold app at h; split at h
  · cases h; exact ⟨by assumption, rfl⟩
  · cases h
def mks {α : Type} (b : Nat) (n : Int) (z : α) : Option (List α) := if 0 ≤ n ∧ n * b ≤ lim ∧ n ≤ lim then some (List.replicate n.toNat z) else none
theorem mks_some {α : Type} {b : Nat} {n : Int} {z : α} {x : List α} (h : mks b n z = some x) : (0 ≤ n ∧ n * b ≤ lim ∧ n ≤ lim) ∧ x = List.replicate n.toNat z := by
  unfold mks at h; split at h
  · cases h; exact ⟨by assumption, rfl⟩
  · cases h
def nz (b : Int) : Option Unit := if b = 0 then none else some ()
theorem nz_some {b : Int} {u : Unit} (h : nz b = some u) : b ≠ 0 := by
  unfold nz at h; split at h
  · cases h
  · assumption
def sEq (a b : ByteArray) : Bool := a.toList == b.toList
def sLt (a b : ByteArray) : Bool := Op.bytesLess a.toList b.toList
theorem sEq_eq (a b : ByteArray) : (a.toList == b.toList) = sEq a b := rfl
theorem sLt_eq (a b : ByteArray) : Op.bytesLess a.toList b.toList = sLt a b := rfl
theorem sBeq (a b : ByteArray) : (a == b) = sEq a b := by
  have h1 := ba_beq a b
  have h2 : (a.toList == b.toList) = true ↔ a = b := by
    rw [beq_iff_eq]
    constructor
    · intro h
      have : a.data.toList = b.data.toList := by simpa [ByteArray.toList_eq] using h
      cases a; cases b; simp_all
    · rintro rfl; rfl
  unfold sEq
  cases h3 : (a == b) <;> cases h4 : (a.toList == b.toList) <;> simp_all

/-! ### Ways through a piece of code -/
inductive Ex (σ τ ρ : Type) where
  | next (s : σ)
  | brk (t : τ)
  | ret (r : ρ)
def seqK {τ ρ : Type} (o : Option (Sum τ ρ)) (k : τ → Option ρ) : Option ρ := o.bind fun | .inl t => k t | .inr x => some x
theorem seqK_some {τ ρ : Type} {o : Option (Sum τ ρ)} {k : τ → Option ρ} {x : ρ} (h : seqK o k = some x) : ∃ y, o = some y ∧ (∀ t, y = .inl t → k t = some x) ∧ ∀ x', y = .inr x' → x' = x := by
  obtain ⟨y, h1, h2⟩ := bind_some h
  refine ⟨y, h1, ?_, ?_⟩
  · rintro t rfl; exact h2
  · rintro x' rfl; exact Option.some.inj h2
def forN {σ τ ρ : Type} (body : Nat → σ → Option (Ex σ τ ρ)) (fin : σ → τ) : Nat → Nat → σ → Option (Sum τ ρ)
  | 0, _, s => some (.inl (fin s))
  | n + 1, i, s => (body i s).bind fun | .next s' => forN body fin n (i + 1) s' | .brk t => some (.inl t) | .ret r => some (.inr r)
def forL {α σ τ ρ : Type} (l : List α) (body : Nat → α → σ → Option (Ex σ τ ρ)) (fin : σ → τ) (s : σ) : Option (Sum τ ρ) :=
  forN (fun i s => (l[i]?).bind fun x => body i x s) fin l.length 0 s
def forI {σ τ ρ : Type} (n : Int) (body : Nat → σ → Option (Ex σ τ ρ)) (fin : σ → τ) (s : σ) : Option (Sum τ ρ) :=
  if n ≤ top then forN body fin n.toNat 0 s else none
def itW {σ τ ρ : Type} (body : σ → Option (Ex σ τ ρ)) : Nat → σ → Option (Sum τ ρ)
  | 0, _ => none
  | n + 1, s => (body s).bind fun | .next s' => itW body n s' | .brk t => some (.inl t) | .ret r => some (.inr r)
theorem itW_more {σ τ ρ : Type} {body : σ → Option (Ex σ τ ρ)} : ∀ {n : Nat} {s : σ} {y : Sum τ ρ}, itW body n s = some y → ∀ m, n ≤ m → itW body m s = some y
  | 0, _, _, h, _, _ => by cases h
  | n + 1, s, y, h, m, hm => by
    obtain ⟨m, rfl⟩ : ∃ k, m = k + 1 := ⟨m - 1, by omega⟩
    obtain ⟨z, h1, h2⟩ := bind_some h
    simp only [itW, h1, Option.bind_some]
    cases z with
    | next s' => exact itW_more h2 m (by omega)
    | brk t => exact h2
    | ret r => exact h2
open Classical in
noncomputable def loopW {σ τ ρ : Type} (body : σ → Option (Ex σ τ ρ)) (s : σ) : Option (Sum τ ρ) :=
  if h : ∃ n y, itW body n s = some y then some (Classical.choose (Classical.choose_spec h)) else none
theorem loopW_it {σ τ ρ : Type} {body : σ → Option (Ex σ τ ρ)} {s : σ} {y : Sum τ ρ} : loopW body s = some y ↔ ∃ n, itW body n s = some y := by
  unfold loopW
  constructor
  · intro h
    split at h
    · rename_i hx
      exact ⟨_, by rw [← Option.some.inj h]; exact Classical.choose_spec (Classical.choose_spec hx)⟩
    · cases h
  · rintro ⟨n, h⟩
    have hx : ∃ n y, itW body n s = some y := ⟨n, y, h⟩
    rw [dif_pos hx]
    have h2 := Classical.choose_spec (Classical.choose_spec hx)
    have h3 := itW_more h (max n (Classical.choose hx)) (Nat.le_max_left _ _)
    rw [itW_more h2 (max n (Classical.choose hx)) (Nat.le_max_right _ _)] at h3
    exact h3
theorem loopW_eq {σ τ ρ : Type} (body : σ → Option (Ex σ τ ρ)) (s : σ) : loopW body s = (body s).bind fun | .next s' => loopW body s' | .brk t => some (.inl t) | .ret r => some (.inr r) := by
  apply Option.ext
  intro y
  rw [loopW_it, Option.bind_eq_some_iff]
  constructor
  · rintro ⟨n, h⟩
    cases n with
    | zero => cases h
    | succ n =>
      obtain ⟨z, h1, h2⟩ := bind_some h
      refine ⟨z, h1, ?_⟩
      cases z with
      | next s' => exact loopW_it.2 ⟨n, h2⟩
      | brk t => exact h2
      | ret r => exact h2
  · rintro ⟨z, h1, h2⟩
    cases z with
    | next s' =>
      obtain ⟨n, h⟩ := loopW_it.1 h2
      exact ⟨n + 1, by simp only [itW, h1, Option.bind_some]; exact h⟩
    | brk t => exact ⟨1, by simp only [itW, h1, Option.bind_some]; exact h2⟩
    | ret r => exact ⟨1, by simp only [itW, h1, Option.bind_some]; exact h2⟩

/-! ### The rules -/
variable {P : Program}
theorem aw_postU {nt : Nat} {rc : RCode} {Q : RExit → St → Prop} {st : St} {τ : Type} (E : τ → St) (J : τ → Prop)
    (h : AWr P nt rc (fun e s => match e with | .normal => ∃ t, J t ∧ Upd st.k s (E t) | e => Q e s) st) (hq : ∀ t, J t → Q .normal (E t)) : AWr P nt rc Q st := by
  intro c hc g w a h1 h2 h3
  refine wp_mono (h c hc g w a h1 h2 h3) fun e a' w' ⟨e', st', g', r1, r2, r3, r4, r5, r6⟩ => ?_
  cases e' with
  | normal =>
    obtain ⟨t, hj, hu⟩ := r2
    obtain ⟨g'', s', e''⟩ := hu g' w' a'.tmps r5
    exact ⟨.normal, E t, g'', r1, hq t hj, r3, r4, s', e'' g w st.H r6⟩
  | exit id => exact ⟨.exit id, st', g', r1, r2, r3, r4, r5, r6⟩
  | ret => exact ⟨.ret, st', g', r1, r2, r3, r4, r5, r6⟩

/-- Two pieces, with one form of the state between them. -/
theorem aw_joinK {τ ρ : Type} {nt : Nat} {x y : RCode} {Q : RExit → St → Prop} {st : St} {o : Option (Sum τ ρ)} {k : τ → Option ρ} {r : ρ} (hF : seqK o k = some r) (E : τ → St)
    (h1 : ∀ z, o = some z → (∀ r', z = .inr r' → r' = r) → ∀ Q', IsQ Q' (fun e s => match e with | .normal => ∃ t, z = .inl t ∧ Upd st.k s (E t) | e => Q e s) → AWr P nt x Q' st)
    (h2 : ∀ t, k t = some r → AWr P nt y Q (E t)) : AWr P nt (.seq x y) Q st := by
  obtain ⟨z, ho, hl, hr⟩ := seqK_some hF
  refine aw_seq (aw_postU E (fun t => z = .inl t) ?_ (fun t ht => h2 t (hl t ht)))
  refine aw_mono (h1 z ho hr _ ⟨rfl⟩) ?_
  intro e s h
  cases e <;> exact h
theorem aw_joinX {τ ρ : Type} {nt : Nat} {x : RCode} {Q : RExit → St → Prop} {st : St} {o : Option (Sum τ ρ)} {k : τ → Option ρ} {r : ρ} (hF : seqK o k = some r) (E : τ → St)
    (h1 : ∀ z, o = some z → (∀ r', z = .inr r' → r' = r) → ∀ Q', IsQ Q' (fun e s => match e with | .normal => ∃ t, z = .inl t ∧ Upd st.k s (E t) | e => Q e s) → AWr P nt x Q' st)
    (h2 : ∀ t, k t = some r → Q .normal (E t)) : AWr P nt x Q st := by
  obtain ⟨z, ho, hl, hr⟩ := seqK_some hF
  refine aw_postU E (fun t => z = .inl t) ?_ (fun t ht => h2 t (hl t ht))
  refine aw_mono (h1 z ho hr _ ⟨rfl⟩) ?_
  intro e s h
  cases e <;> exact h

theorem aw_forN {σ τ ρ : Type} {nt : Nat} {x : RCode} {Q : RExit → St → Prop} {st : St} {body : Nat → σ → Option (Ex σ τ ρ)} {fin : σ → τ} {n : Nat} {s0 : σ} {y : Sum τ ρ}
    (hy : forN body fin n 0 s0 = some y) (S : Nat → σ → St) (h0 : Upd st.k st (S 0 s0))
    (hend : ∀ s, y = .inl (fin s) → ∀ Q', IsQ Q' (fun e s => match e with | .normal => False | e => Q e s) → AWr P nt x Q' (S n s))
    (h : ∀ i s z, i < n → body i s = some z → (∀ t, z = .brk t → y = .inl t) → (∀ r, z = .ret r → y = .inr r) →
      ∀ Q', IsQ Q' (fun e s1 => match e with | .normal => ∃ s', z = .next s' ∧ Upd (S i s).k s1 (S (i + 1) s') | e => Q e s1) → AWr P nt x Q' (S i s)) : AWr P nt (.loop x) Q st := by
  refine aw_loopS (ι := Nat × σ) (fun p => S p.1 p.2) (fun p => n + 1 - p.1) (fun p => p.1 ≤ n ∧ forN body fin (n - p.1) p.1 p.2 = some y) (0, s0) ⟨Nat.zero_le _, hy⟩ h0 ?_
  rintro ⟨i, s⟩ ⟨hi, hs⟩
  dsimp only at hi hs ⊢
  by_cases hlt : i < n
  · rw [show n - i = (n - (i + 1)) + 1 by omega] at hs
    obtain ⟨z, hz, hs⟩ := bind_some hs
    refine aw_mono (h i s z hlt hz ?_ ?_ _ ⟨rfl⟩) ?_
    · rintro t rfl; exact (Option.some.inj hs).symm
    · rintro t rfl; exact (Option.some.inj hs).symm
    · intro e s1 h
      cases e with
      | normal =>
        obtain ⟨s', rfl, hu⟩ := h
        exact ⟨(i + 1, s'), ⟨hlt, hs⟩, by dsimp only; omega, hu⟩
      | exit id => exact h
      | ret => exact h
  · obtain rfl : i = n := by omega
    rw [Nat.sub_self] at hs
    refine aw_mono (hend s (Option.some.inj hs).symm _ ⟨rfl⟩) ?_
    intro e s1 h
    cases e with
    | normal => exact h.elim
    | exit id => exact h
    | ret => exact h
theorem aw_forL {α σ τ ρ : Type} {nt : Nat} {x : RCode} {Q : RExit → St → Prop} {st : St} {l : List α} {body : Nat → α → σ → Option (Ex σ τ ρ)} {fin : σ → τ} {s0 : σ} {y : Sum τ ρ}
    (hy : forL l body fin s0 = some y) (S : Nat → σ → St) (h0 : Upd st.k st (S 0 s0))
    (hend : ∀ s, y = .inl (fin s) → ∀ Q', IsQ Q' (fun e s => match e with | .normal => False | e => Q e s) → AWr P nt x Q' (S l.length s))
    (h : ∀ i x' s z, i < l.length → l[i]? = some x' → body i x' s = some z → (∀ t, z = .brk t → y = .inl t) → (∀ r, z = .ret r → y = .inr r) →
      ∀ Q', IsQ Q' (fun e s1 => match e with | .normal => ∃ s', z = .next s' ∧ Upd (S i s).k s1 (S (i + 1) s') | e => Q e s1) → AWr P nt x Q' (S i s)) : AWr P nt (.loop x) Q st :=
  aw_forN hy S h0 hend fun i s z hi hz hb hr Q' hQ => by
    obtain ⟨x', h1, h2⟩ := bind_some hz
    exact h i x' s z hi h1 h2 hb hr Q' hQ
theorem forI_some {σ τ ρ : Type} {n : Int} {body : Nat → σ → Option (Ex σ τ ρ)} {fin : σ → τ} {s : σ} {y : Sum τ ρ} (h : forI n body fin s = some y) : n ≤ top ∧ forN body fin n.toNat 0 s = some y := by
  unfold forI at h; split at h
  · exact ⟨by assumption, h⟩
  · cases h
theorem aw_loopK {σ τ ρ : Type} {nt : Nat} {x : RCode} {Q : RExit → St → Prop} {st : St} {body : σ → Option (Ex σ τ ρ)} {s0 : σ} {y : Sum τ ρ}
    (hy : loopW body s0 = some y) (S : σ → St) (h0 : Upd st.k st (S s0))
    (h : ∀ s z, body s = some z → (∀ t, z = .brk t → y = .inl t) → (∀ r, z = .ret r → y = .inr r) →
      ∀ Q', IsQ Q' (fun e s1 => match e with | .normal => ∃ s', z = .next s' ∧ Upd (S s).k s1 (S s') | e => Q e s1) → AWr P nt x Q' (S s)) : AWr P nt (.loop x) Q st := by
  obtain ⟨n, hn⟩ := loopW_it.1 hy
  refine aw_loopS (ι := Nat × σ) (fun p => S p.2) (fun p => p.1) (fun p => itW body p.1 p.2 = some y) (n, s0) hn h0 ?_
  rintro ⟨n, s⟩ hs
  dsimp only at hs ⊢
  cases n with
  | zero => cases hs
  | succ n =>
    obtain ⟨z, hz, hs⟩ := bind_some hs
    refine aw_mono (h s z hz ?_ ?_ _ ⟨rfl⟩) ?_
    · rintro t rfl; exact (Option.some.inj hs).symm
    · rintro t rfl; exact (Option.some.inj hs).symm
    · intro e s1 h
      cases e with
      | normal =>
        obtain ⟨s', rfl, hu⟩ := h
        exact ⟨(n, s'), hs, by dsimp only; omega, hu⟩
      | exit id => exact h
      | ret => exact h

/-- A region with guards, one form of the state behind it. -/
theorem aw_postE {nt : Nat} {rc : RCode} {Q : RExit → St → Prop} {st : St} (E : St) (h : AWr P nt rc (fun e s => match e with | .normal => Upd st.k s E | e => Q e s) st) (hq : Q .normal E) : AWr P nt rc Q st := by
  refine aw_postU (τ := Unit) (fun _ => E) (fun _ => True) (aw_mono h ?_) fun _ _ => hq
  intro e s h
  cases e with
  | normal => exact ⟨(), trivial, h⟩
  | exit id => exact h
  | ret => exact h
theorem aw_srJ {nt : Nat} {ls : List LOp} {y : RCode} {Q : RExit → St → Prop} {st : St} (E : St) (h1 : ∀ K, IsK K (fun s => Upd st.k s E) → vOps P ls st K) (h2 : AWr P nt y Q E) : AWr P nt (.seq (.region false ls) y) Q st :=
  aw_seq (aw_postE E (aw_region (h1 _ ⟨rfl⟩)) h2)
theorem aw_sdJ {nt : Nat} {ls : List LOp} {y : RCode} {Q : RExit → St → Prop} {st : St} (E : St) (h1 : ∀ K, IsK K (fun s => Upd st.k s E) → vD P ls st K) (h2 : AWr P nt y Q E) : AWr P nt (.seq (.region true ls) y) Q st :=
  aw_seq (aw_postE E (aw_d (h1 _ ⟨rfl⟩)) h2)
theorem aw_rJ {nt : Nat} {ls : List LOp} {Q : RExit → St → Prop} {st : St} (E : St) (h1 : ∀ K, IsK K (fun s => Upd st.k s E) → vOps P ls st K) (h2 : Q .normal E) : AWr P nt (.region false ls) Q st :=
  aw_postE E (aw_region (h1 _ ⟨rfl⟩)) h2
theorem aw_dJ {nt : Nat} {ls : List LOp} {Q : RExit → St → Prop} {st : St} (E : St) (h1 : ∀ K, IsK K (fun s => Upd st.k s E) → vD P ls st K) (h2 : Q .normal E) : AWr P nt (.region true ls) Q st :=
  aw_postE E (aw_d (h1 _ ⟨rfl⟩)) h2
def gAnd (g : Bool) (o : Option Bool) : Option Bool := if g = true then o else some false
def gOr (g : Bool) (o : Option Bool) : Option Bool := if g = true then some true else o
theorem if_t {α : Type} {c : Bool} {x y : Option α} {r : α} (hc : c = true) (h : (if c = true then x else y) = some r) : x = some r := by rwa [if_pos hc] at h
theorem if_f {α : Type} {c : Bool} {x y : Option α} {r : α} (hc : c = false) (h : (if c = true then x else y) = some r) : y = some r := by rwa [if_neg (by simp [hc])] at h

/-! ### Maps, typed -/
def mget {κ β : Type} (eq : κ → κ → Bool) (k : κ) : List (κ × β) → Option β
  | [] => none
  | e :: r => if eq k e.1 = true then some e.2 else mget eq k r
def mset {κ β : Type} (eq : κ → κ → Bool) (k : κ) (v : β) : List (κ × β) → List (κ × β)
  | [] => [(k, v)]
  | e :: r => if eq k e.1 = true then (k, v) :: r else e :: mset eq k v r
theorem mfind_typed {κ β : Type} {q : FK} {ek : κ → Value} {ev : β → PV} {eq : κ → κ → Bool} (h : ∀ a b, flatEq q (ek a) (ek b) = some (eq a b)) (k : κ) : ∀ (m : List (κ × β)),
    mfind q (.c (ek k)) (m.map fun e => (.c (ek e.1), ev e.2)) = some ((mget eq k m).map ev)
  | [] => rfl
  | e :: m => by
    simp only [List.map_cons, mfind, h, mget]
    cases eq k e.1 with
    | true => rfl
    | false => simp only [mfind_typed h k m]; rfl
theorem mput_typed {κ β : Type} {q : FK} {ek : κ → Value} {ev : β → PV} {eq : κ → κ → Bool} (h : ∀ a b, flatEq q (ek a) (ek b) = some (eq a b)) (k : κ) (v : β) : ∀ (m : List (κ × β)),
    mput q (.c (ek k)) (ev v) (m.map fun e => (.c (ek e.1), ev e.2)) = some ((mset eq k v m).map fun e => (.c (ek e.1), ev e.2))
  | [] => rfl
  | e :: m => by
    simp only [List.map_cons, mput, h, mset]
    cases eq k e.1 with
    | true => rfl
    | false => simp only [mput_typed h k v m, Option.map_some]; rfl
def iEq (a b : Int) : Bool := a == b
end Go.Abs
